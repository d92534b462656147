/- mask.stream: the iterator. -/
import Derived.RangeFuncNested
import Derived.RangeFuncBound
import Derived.RangeFuncCalls
import Derived.RangeFuncLeaves
import Derived.Shelf.Abstract
import Derived.WalkKit
import Derived.OwnWalkIn
import Derived.TacticsInMore
import Derived.LoopNIn
import Derived.LoopIn
import Derived.Test.YtppbaahaegmgeaaMkE
import Derived.Test.YtppbaahaegmgeaaKnG
namespace Go.Proofs.Ytppbaahaegmgeaa
open Go.RowKit Go.Shelf
attribute [local go_sem] Oper.semAt_some

/-- The stream of a key and a nonce's bytes. -/
def stF (G : Nat → Int) (X : List Int) (j : Nat) : Int := mac (keyL G) (4 :: (X ++ rowU (j / 32))) (j % 32)
def stL (G : Nat → Int) (X : List Int) (n : Nat) : List Int := (List.range n).map (stF G X)
theorem stL_len (G : Nat → Int) (X : List Int) (n : Nat) : (stL G X n).length = n := by simp [stL]
theorem stL_step (G : Nat → Int) (X : List Int) (n : Nat) : stL G X (n + 1) = stL G X n ++ [stF G X n] := by simp [stL, List.range_succ]
theorem stF_at (G : Nat → Int) (X : List Int) (i j : Nat) (hj : j < 32) : stF G X (32 * i + j) = mac (keyL G) (4 :: (X ++ rowU i)) j := by
  unfold stF
  rw [show (32 * i + j) / 32 = i by omega, show (32 * i + j) % 32 = j by omega]

/-- Whatever lies below nn lies as it lay, but for bs. -/
structure KpB (nn : Nat) (bs : List Nat) (A B : World) : Prop where
  os : B.os = A.os
  tape : B.tape = A.tape
  output : B.output = A.output
  size : A.heap.size ≤ B.heap.size
  block : ∀ k, k < nn → k ∉ bs → B.heap[k]? = A.heap[k]?
theorem KpB.refl (nn : Nat) (bs : List Nat) (w : World) : KpB nn bs w w := ⟨rfl, rfl, rfl, Nat.le_refl _, fun _ _ _ => rfl⟩
theorem KpB.trans {nn : Nat} {bs : List Nat} {A B C : World} (h : KpB nn bs A B) (k : KpB nn bs B C) : KpB nn bs A C :=
  ⟨k.os.trans h.os, k.tape.trans h.tape, k.output.trans h.output, Nat.le_trans h.size k.size, fun i hi hn => (k.block i hi hn).trans (h.block i hi hn)⟩
theorem Upd.kpb {nn : Nat} {bs cs : List Nat} {A B : World} (h : Upd cs A B) (hn : nn ≤ A.heap.size) (hc : ∀ x ∈ cs, x ∈ bs) : KpB nn bs A B :=
  ⟨h.os, h.tape, h.output, h.size, fun k hk hnb => h.block k (Nat.lt_of_lt_of_le hk hn) (fun hm => hnb (hc k hm))⟩
theorem KpB.putObj {nn : Nat} {bs : List Nat} (W : World) (l : Nat) (o' : Obj) (hl : nn ≤ l) : KpB nn bs W (W.putObj l o') := by
  have hg := grownBy_putObj' W l o'
  refine ⟨hg.os, hg.tape, hg.output, hg.size, fun k hk _ => ?_⟩
  by_cases h : k < W.heap.size
  · exact hg.block k h (fun e => by cases e; omega)
  · have h1 : W.heap[k]? = none := Array.getElem?_eq_none (by omega)
    have h2 : (W.putObj l o').heap.size = W.heap.size := by simp [World.putObj]
    rw [h1, Array.getElem?_eq_none (by rw [h2]; omega)]

theorem blk_kpb {nn : Nat} {bs : List Nat} {w w' : World} {b : Nat} {cs : List Value} {T : TypeId} (h : Blk w b cs T) (hb : KpB nn bs w w') (hn : b < nn ∧ b ∉ bs) : Blk w' b cs T := h.of_heap (hb.block b hn.1 hn.2)
theorem byAt_kpb {nn : Nat} {bs : List Nat} {w w' : World} {p : Option Addr} {xs : List Int} (h : ByAt w p xs) (hb : KpB nn bs w w') (hn : ∀ b o, p = some ⟨b, o, none⟩ → b < nn ∧ b ∉ bs) : ByAt w' p xs :=
  fun i x hx => by
    obtain ⟨b, o, rfl, hl, hc⟩ := h i x hx
    have := hn b o rfl
    exact ⟨b, o, rfl, Nat.lt_of_lt_of_le hl hb.size, (World.cell?_of_block (hb.block b this.1 this.2)).trans hc⟩
theorem wpListIn_load_row {F : Fence} {n : Nat} {P : Program} {w : World} {ops : Array Oper} {rest : List Oper} {o : Oper} {a : Act} {Q : Exit → Act → World → Prop} (hgd : o.guard = none) (ty : TypeId) (x : Operand) (ho : o.op = .load ty x)
    (g : Nat) (hx : a.eval x = .pointer (some ⟨g, 0, none⟩)) (t : TypeId) (cs : Array Value) (fr : Nat × Nat) (d : TypeDesc) (hg : w.heap[g]? = some (.cells cs t fr))
    (hu : P.underlying ty = some d) (hd : (match d with | .struct _ | .array _ _ => true | _ => false) = true) (hi : (P.info? ty).map (·.size) = some cs.size)
    (h : wpListIn F n P ops Q rest (a.put o.dst (.agg cs)) w) : wpListIn F n P ops Q (o :: rest) a w := by
  refine wpListIn_plain hgd fun K hK => ?_
  unfold Oper.wpIn
  refine ⟨?_, ?_⟩
  · simp [Oper.about, ho]
  · rw [Oper.semAt_plain F _ _ (by rw [ho]; intro c hc'; cases hc')]
    simp only [execOp, ho, hx, Instr.loadAt, Instr.sureAddr, Sem.run_bind, Sem.run_pure, Result.andThen_ok, run_loadVar_row w g t ty cs fr d hg hu hd hi]
    exact hK _ _ h

theorem index_row (w : World) (F : Nat → Int) (j : Nat) (hj : j < 32) : (Instr.index 22 (.agg (row32 F).toArray) (.int .i64 (j : Int))).run Try.prog w = .ok (.int .u8 (F j)) w := by
  obtain ⟨i0, hi, hz0, hz1, hz2⟩ := info_parts info_u8
  have hu : (underlying 22).run Try.prog w = .ok (.array 32 5) w := run_underlying Try.underlying22 w
  have hp := part_u8 w F j hj
  have h1 : (0 : Int) ≤ (j : Int) ∧ (j : Int) < 32 := by omega
  simp [Instr.index, asIntOf, hu, sizeOf, typeInfo, hi, hz1, h1, hp, hj]

set_option maxRecDepth 100000 in
set_option maxHeartbeats 4000000 in
theorem str1_in (n : Nat) (hn : 2 ≤ n) (l kb nb nn : Nat) (bs : List Nat) (G : Nat → Int) (hG : RngF G) (px : Option Addr) (X : List Int) (cx : Nat) (hXr : Rng X) (hXl : X.length ≤ 1000) (hXc : X.length ≤ cx) (J Jx : List Int → World → Prop)
    (hJ : ∀ s A B, J s A → A.grownBy B none → J s B)
    (hY : ∀ pre x W, J pre W → pre.length < 288230376151711744 → YieldAt Fence.wide (n - 1) Try.prog l #[.int .u8 x] W fun e W' => (e = .returned (.bool true) ∧ J (pre ++ [x]) W' ∧ KpB nn bs W W') ∨ (e = .returned (.bool false) ∧ Jx (pre ++ [x]) W'))
    (W : World) (hn0 : nn ≤ W.heap.size) (hk : Blk W kb (row32 G) 23) (hkn : kb < nn ∧ kb ∉ bs) (hnb : Blk W nb [.slice px X.length cx] 26) (hnn : nb < nn ∧ nb ∉ bs) (hX : ByAt W px X) (hXn : ∀ b o, px = some ⟨b, o, none⟩ → b < nn ∧ b ∉ bs) (h0 : J [] W) :
    CallsIn Fence.wide n Try.prog 56 #[.func (.yield l) #[] #[], .pointer (some ⟨kb, 0, none⟩), .pointer (some ⟨nb, 0, none⟩)] W fun e W' => (∃ v, e = .returned v) ∧
      ((∃ ys : List Int, ys.length = 288230376151711744 ∧ J ys W') ∨ (∃ pre, pre = stL G X pre.length ∧ Jx pre W')) := by
  refine callsIn_of_wp Try.func56 rfl trivial ?_ rfl
  simp only [Try.ntmps56, List.size_toArray, List.length_cons, List.length_nil, Nat.reduceAdd, Nat.reduceSub, Array.replicate_succ, Array.replicate_zero, List.push_toArray, List.append_toArray, List.nil_append, List.cons_append]
  gi_wp2
  gi_loopw [4] (fun iv wr => ∃ (i : Nat), iv = .int .i64 (i : Int) ∧ i ≤ 9007199254740992 ∧ J (stL G X (32 * i)) wr ∧ KpB nn bs W wr) (fun iv _ => 9007199254740992 - (intOf iv).toNat)
  case atStart => exact ⟨0, rfl, by omega, h0, KpB.refl _ _ _⟩
  case round =>
    obtain ⟨i, rfl, hi, hJs, hB⟩ := hrel
    have hkr := blk_kpb hk hB hkn
    have hnr := blk_kpb hnb hB hnn
    have hXw := byAt_kpb hX hB hXn
    have h1n : 1 ≤ n := by omega
    have hn0r : nn ≤ wr.heap.size := Nat.le_trans hn0 hB.size
    rcases Nat.lt_or_ge i 9007199254740992 with hlt | hge
    · have hU := u_ok i hlt wr
      obtain ⟨k, hk8⟩ : ∃ k, szU i = k := ⟨_, rfl⟩
      have hk8' := (szU_bd i hlt).2
      rw [hk8] at hU hk8'
      have hkl : (rowU i).length = k := by rw [rowU_len, hk8]
      obtain ⟨F, hF⟩ : ∃ F, mac (keyL G) (4 :: (X ++ rowU i)) = F := ⟨_, rfl⟩
      have HF := Lib.hid hF
      have hof : ∀ (w1 : World) (g : Nat), Upd [] wr w1 → Blk w1 g (u8s (rowU i)) 5 → Calls Try.prog 34 #[.agg (row32 G).toArray, .int .u8 4, .slice (some ⟨w1.heap.size, 0, none⟩) 2 2] (w1.alloc (.cells #[.slice px X.length cx, .slice (some ⟨g, 0, none⟩) k k] 26)) fun e w' => e = .returned (.agg (row32 F).toArray) ∧ Upd [] w1 w' := fun w1 g u hb => by
        have uB := (Upd.refl [] w1).alloc (.cells #[.slice px X.length cx, .slice (some ⟨g, 0, none⟩) k k] 26)
        have hrb : ByAt w1 (some ⟨g, 0, none⟩) (rowU i) := ByAt.of_blk hb (fun j x hx => by
          unfold u8s
          rw [Nat.zero_add, List.getElem?_map, hx]; rfl)
        have hrow := row2 (Blk.new w1 #[.slice px X.length cx, .slice (some ⟨g, 0, none⟩) k k] 26) rfl hkl.symm ((hXw.upd_nil u).upd_nil uB) hXr hXc (hrb.upd_nil uB) (rowU_rng i) (by omega)
        have := of_mac _ G hG 4 (by omega) (some ⟨w1.heap.size, 0, none⟩) [X, rowU i] 2 hrow (by simp) (by simp) (by simp; omega)
        rw [show [X, rowU i].flatten = X ++ rowU i by simp, HF.out] at this
        simp only [List.length_cons, List.length_nil, Nat.zero_add, Nat.reduceAdd] at this
        exact this.mono fun e w' ⟨h1, h2⟩ => ⟨h1, uB.trans_nil h2⟩
      have hpart := fun (w : World) (j : Nat) (hj : j < 32) => index_row w F j hj
      have hst : ∀ j, j < 32 → stF G X (32 * i + j) = F j := fun j hj => by rw [stF_at G X i j hj, HF.out]
      have i1 : (0 : Int) ≤ i := by omega
      have i2 : (i : Int) < 9007199254740992 := by omega
      clear hF hk8 hkl
      gi_wp2_with (first
        | (refine ⟨trivial, ?_⟩; gi_at_call 34; refine (callsIn_wide.2 (hof w1 g u1 hbg)).mono ?_; rintro e w2 ⟨rfl, u2⟩; have v2 := u1.trans_nil u2)
        | (refine wpListIn_load_row rfl _ _ rfl kb rfl _ (row32 G).toArray _ _ hk1 Try.underlying23 rfl (infoK G) ?_)
        | (refine ⟨trivial, ?_⟩; gi_at_call 19; refine (callsIn_wide.2 hU).mono ?_; rintro e w1 ⟨g, rfl, hg, hbg, u1⟩; have hk1 := hkr.upd_nil u1; have hn1 := (hnr.upd_nil u1).cell 0 rfl))
      have hJ2 := hJ _ _ _ hJs (⟨v2.os, v2.tape, v2.output, v2.size, fun k hk _ => v2.block k hk (by simp)⟩ : World.grownBy wr w2 none)
      have hB2 := hB.trans (v2.kpb hn0r (by simp))
      clear hJs hB hof hU u1 u2 v2 hk1 hn1 hbg hkr hnr hXw
      gi_loopw [23] (fun jv wr => ∃ (j : Nat), jv = .int .i64 (j : Int) ∧ j ≤ 32 ∧ J (stL G X (32 * i + j)) wr ∧ KpB nn bs W wr) (fun jv _ => 32 - (intOf jv).toNat)
      case atStart => exact ⟨0, rfl, by omega, hJ2, hB2⟩
      case round =>
        clear hJ2 hB2
        obtain ⟨j, rfl, hj, hJs, hB⟩ := hrel
        obtain ⟨wq, rfl⟩ : ∃ wq, wq = wr := ⟨_, rfl⟩
        rcases Nat.lt_or_ge j 32 with hlt2 | hge2
        · have hs := stL_step G X (32 * i + j)
          rw [hst j hlt2] at hs
          obtain ⟨fn, tmps, assign, body, hy, hR⟩ := hY (stL G X (32 * i + j)) (F j) wq hJs (by rw [stL_len]; omega)
          rw [← hs] at hR
          have hp := fun w => hpart w j hlt2
          have j1 : (0 : Int) ≤ j := by omega
          have j2 : (j : Int) < 32 := by omega
          clear hs hpart
          gi_wp2
          refine hR.mono ?_
          rintro e W3 (⟨rfl, hJ3, hk3⟩ | ⟨rfl, hJx3⟩)
          · gi_wp2
            go_roundw
            case rel => exact ⟨j + 1, by go_num, by omega, hJ3, hB.trans hk3⟩
            case measure => simp [intOf]; omega
          · gi_wp2
            refine bodyPost_ret (results_none rfl _ _ _) rfl ?_
            exact ⟨⟨_, rfl⟩, .inr ⟨_, by rw [stL_len], hJx3⟩⟩
        · obtain rfl : j = 32 := by omega
          gi_wp2
          go_roundw
          case rel => exact ⟨i + 1, by go_num, by omega, by rw [show 32 * (i + 1) = 32 * i + 32 by omega]; exact hJs, hB⟩
          case measure => simp [intOf]; omega
    · obtain rfl : i = 9007199254740992 := by omega
      have hU := u_no ((9007199254740992 : Nat) : Int) (by omega) wr
      gi_wp2_with (refine ⟨trivial, ?_⟩; gi_at_call 19; refine (callsIn_wide.2 hU).mono ?_; rintro e w1 ⟨rfl, rfl⟩)
      refine bodyPost_ret (results_none rfl _ _ _) rfl ?_
      exact ⟨⟨_, rfl⟩, .inl ⟨_, by rw [stL_len], hJs⟩⟩

theorem str_stops (n : Nat) (hn : 2 ≤ n) (kb nb nn : Nat) (bs : List Nat) (G : Nat → Int) (hG : RngF G) (px : Option Addr) (X : List Int) (cx : Nat) (hXr : Rng X) (hXl : X.length ≤ 1000) (hXc : X.length ≤ cx)
    (w : World) (hn0 : nn ≤ w.heap.size) (hk : Blk w kb (row32 G) 23) (hkn : kb < nn ∧ kb ∉ bs) (hnb : Blk w nb [.slice px X.length cx] 26) (hnn : nb < nn ∧ nb ∉ bs) (hX : ByAt w px X) (hXn : ∀ b o, px = some ⟨b, o, none⟩ → b < nn ∧ b ∉ bs) :
    SeqStopsK Fence.wide n Try.prog 56 #[.pointer (some ⟨kb, 0, none⟩), .pointer (some ⟨nb, 0, none⟩)] (fun x : Int => #[.int .u8 x]) (KpB nn bs) (fun ys => ys.length = 288230376151711744) (fun pre => pre = stL G X pre.length) 288230376151711744 w := fun l J Jx W hW hJ _ hY h0 => by
  have hk' : Blk W kb (row32 G) 23 := hk.of_heap (hW.block kb hk.lt)
  have hnb' : Blk W nb [.slice px X.length cx] 26 := hnb.of_heap (hW.block nb hnb.lt)
  have hX' : ByAt W px X := fun i x hx => by
    obtain ⟨b, o, rfl, hl, hc⟩ := hX i x hx
    exact ⟨b, o, rfl, Nat.lt_of_lt_of_le hl hW.size, (World.cell?_of_block (hW.block b hl)).trans hc⟩
  exact str1_in n hn l kb nb nn bs G hG px X cx hXr hXl hXc J Jx (fun s A B hs hg => hJ s A B none hs hg (fun r e => by cases e)) hY W (Nat.le_trans hn0 hW.size) hk' hkn hnb' hnn hX' hXn h0

theorem stream_walk (w : World) (G : Nat → Int) (px : Option Addr) (m cx : Nat) :
    Calls Try.prog 48 #[.agg (row32 G).toArray, .slice px m cx] w fun e w' => e = .returned (.func (.func 56) #[] #[.pointer (some ⟨w.heap.size, 0, none⟩), .pointer (some ⟨w.heap.size + 1, 0, none⟩)]) ∧ Blk w' w.heap.size (row32 G) 23 ∧ Blk w' (w.heap.size + 1) [.slice px m cx] 26 ∧ Upd [] w w' := by
  have hD : Blk (w.alloc (.cells (row32 G).toArray 23)) w.heap.size (row32 G) 23 := Blk.new w (row32 G).toArray 23
  have hE := Blk.new (w.alloc (.cells (row32 G).toArray 23)) #[.slice px m cx] 26
  rw [World.size_alloc] at hE
  have u := ((Upd.refl [] w).alloc (.cells (row32 G).toArray 23)).alloc (.cells #[.slice px m cx] 26)
  have hD2 := hD.alloc (.cells #[.slice px m cx] 26)
  go_enter Try.func48, Try.ntmps48
  go_wp2_with fail
  go_ret
  exact ⟨rfl, hD2, hE, u⟩

end Go.Proofs.Ytppbaahaegmgeaa

/- mask.turned: bytes, with the stream added. -/
namespace Go.Proofs.Ytppbaahaegmgeaa
open Go.RowKit Go.Shelf
attribute [local go_sem] Oper.semAt_some

def xorB (xs : List Int) (S : Nat → Int) : List Int := (List.range xs.length).map fun i => bits .xor .u8 (xs.getD i 0) (S i)
theorem xorB_len (xs : List Int) (S : Nat → Int) : (xorB xs S).length = xs.length := by simp [xorB]
def mixL (xs pre : List Int) : List Int := (List.range xs.length).map fun k => if k < pre.length then bits .xor .u8 (xs.getD k 0) (pre.getD k 0) else xs.getD k 0
theorem mixL_len (xs pre : List Int) : (mixL xs pre).length = xs.length := by simp [mixL]
theorem mixL_nil (xs : List Int) : mixL xs [] = xs := by
  apply List.ext_getElem?
  intro i
  unfold mixL
  rw [List.getElem?_map]
  by_cases h : i < xs.length
  · rw [List.getElem?_range h, List.getElem?_eq_getElem h, Option.map_some, if_neg (by simp), List.getD_eq_getElem?_getD, List.getElem?_eq_getElem h]; rfl
  · rw [List.getElem?_eq_none (by simpa using h), List.getElem?_eq_none (by omega)]; rfl
theorem mixL_at (xs pre : List Int) (i : Nat) (h : i < xs.length) : (mixL xs pre)[i]? = some (if i < pre.length then bits .xor .u8 (xs.getD i 0) (pre.getD i 0) else xs.getD i 0) := by
  unfold mixL
  rw [List.getElem?_map, List.getElem?_range h]; rfl
theorem mixL_cur (xs pre : List Int) (h : pre.length < xs.length) : (mixL xs pre).getD pre.length 0 = xs.getD pre.length 0 := by
  rw [List.getD_eq_getElem?_getD, mixL_at xs pre _ h, if_neg (by omega)]; rfl
theorem getD_app_l (pre : List Int) (x : Int) (k : Nat) (h : k < pre.length) : (pre ++ [x]).getD k 0 = pre.getD k 0 := by
  rw [List.getD_eq_getElem?_getD, List.getD_eq_getElem?_getD, List.getElem?_append_left h]
theorem mixL_step (xs pre : List Int) (x : Int) (h : pre.length < xs.length) : (mixL xs pre).set pre.length (bits .xor .u8 (xs.getD pre.length 0) x) = mixL xs (pre ++ [x]) := by
  apply List.ext_getElem?
  intro i
  by_cases hi : i < xs.length
  · rw [mixL_at xs _ i hi]
    by_cases e : pre.length = i
    · subst e
      rw [List.getElem?_set_self (by rw [mixL_len]; exact hi), if_pos (by simp)]
      congr 2
      rw [List.getD_eq_getElem?_getD]; simp
    · rw [List.getElem?_set_ne e, mixL_at xs pre i hi]
      by_cases h2 : i < pre.length
      · rw [if_pos h2, if_pos (by simp; omega), getD_app_l pre x i h2]
      · rw [if_neg h2, if_neg (by simp; omega)]
  · rw [List.getElem?_eq_none (by rw [List.length_set, mixL_len]; omega), List.getElem?_eq_none (by rw [mixL_len]; omega)]
theorem mixL_over (xs pre : List Int) (x : Int) (h : xs.length ≤ pre.length) : mixL xs (pre ++ [x]) = mixL xs pre := by
  unfold mixL
  apply List.map_congr_left
  intro k hk
  have hk := List.mem_range.1 hk
  rw [if_pos (by simp; omega), if_pos (by omega), getD_app_l pre x k (by omega)]
theorem mixL_all (xs : List Int) (G : Nat → Int) (X : List Int) (m : Nat) (h : xs.length ≤ m) : mixL xs (stL G X m) = xorB xs (stF G X) := by
  unfold mixL xorB
  apply List.map_congr_left
  intro k hk
  have hk := List.mem_range.1 hk
  rw [if_pos (by rw [stL_len]; omega)]
  congr 1
  unfold stL
  rw [List.getD_eq_getElem?_getD, List.getElem?_map, List.getElem?_range (by omega)]; rfl

theorem blk_turn {W W' : World} {row : Option Nat} {b : Nat} {cs : List Value} {T : TypeId} (h : Blk W b cs T) (hg : W.grownBy W' row) (hr : ∀ r, row = some r → ∃ o : Obj, W.heap[r]? = some o ∧ o.isCells = false) : Blk W' b cs T := by
  refine h.of_heap (hg.block b h.lt (fun e => ?_))
  obtain ⟨o, ho, hc⟩ := hr b e.symm
  unfold Blk at h
  rw [h] at ho
  cases ho
  cases hc
theorem own_turn {W W' : World} {row : Option Nat} {base : Nat} {v : Value} {xs : List Int} (h : OwnB W base v xs) (hg : W.grownBy W' row) (hr : ∀ r, row = some r → ∃ o : Obj, W.heap[r]? = some o ∧ o.isCells = false) : OwnB W' base v xs := by
  refine ⟨h.1, ?_⟩
  rcases h.2 with h1 | ⟨g, cap, cur, h1, h2, h3, h4⟩
  · exact .inl h1
  · refine .inr ⟨g, cap, cur, h1, h2, ?_, h4⟩
    rw [hg.block g (Array.getElem?_eq_some_iff.1 h3).1 (fun e => ?_)]
    · exact h3
    · obtain ⟨o, ho, hc⟩ := hr g e.symm
      rw [h3] at ho
      cases ho
      cases hc
theorem own_setne {W : World} {base : Nat} {v : Value} {xs : List Int} (h : OwnB W base v xs) (a : Addr) (u : Value) (hne : v.ownBlock ≠ some a.block) : OwnB (W.setCell a u) base v xs := by
  refine ⟨h.1, ?_⟩
  rcases h.2 with h1 | ⟨g, cap, cur, h1, h2, h3, h4⟩
  · exact .inl h1
  · refine .inr ⟨g, cap, cur, h1, h2, ?_, h4⟩
    subst h1
    rw [Below.heap_setCell W a u g (fun e => hne (by rw [Value.ownBlock, e]))]
    exact h3

theorem KpB.setCell {nn : Nat} {bs : List Nat} {A W : World} (h : KpB nn bs A W) (a : Addr) (ha : a.block ∈ bs) (u : Value) : KpB nn bs A (W.setCell a u) := by
  have v := (Upd.refl [a.block] W).setCell (p := a) (Or.inl (by simp)) u
  exact ⟨v.os.trans h.os, v.tape.trans h.tape, v.output.trans h.output, Nat.le_trans h.size v.size, fun k hk hn => (Below.heap_setCell W a u k (fun e => hn (by rw [e]; exact ha))).trans (h.block k hk hn)⟩
theorem Blk.ne_own {w : World} {base g b n c : Nat} {cs : List Value} {T : TypeId} {xs : List Int} (hb : Blk w b cs T) (h : OwnB w base (.slice (some ⟨g, 0, none⟩) n c) xs) (hT : T ≠ 5 := by decide) : b ≠ g := fun e => by
  subst e
  exact OwnB.ne_blk h hb hT rfl

set_option maxRecDepth 100000 in
set_option maxHeartbeats 4000000 in
theorem turned_walk (w : World) (G : Nat → Int) (hG : RngF G) (px : Option Addr) (X : List Int) (cx : Nat) (hX : ByAt w px X) (hXr : Rng X) (hX0 : 0 < X.length) (hXl : X.length ≤ 1000) (hXc : X.length ≤ cx)
    (p : Option Addr) (xs : List Int) (c : Nat) (hx : ByAt w p xs) (hr : Rng xs) (hl : xs.length ≤ 100000) (hc : xs.length ≤ c) :
    Calls Try.prog 33 #[.agg (row32 G).toArray, .slice px X.length cx, .slice p xs.length c] w fun e w' => ∃ p' c', e = .returned (.slice p' xs.length c') ∧ OwnB w' w.heap.size (.slice p' xs.length c') (xorB xs (stF G X)) ∧ Upd [] w w' := by
  obtain ⟨n, hn⟩ : ∃ n, xs.length = n := ⟨_, rfl⟩
  obtain ⟨m, hm⟩ : ∃ m, X.length = m := ⟨_, rfl⟩
  have u1 := (Upd.refl [] w).alloc (.cells (row32 G).toArray 23)
  have hD : Blk (w.alloc (.cells (row32 G).toArray 23)) w.heap.size (row32 G) 23 := Blk.new w (row32 G).toArray 23
  have hcl := clone_walk (w.alloc (.cells (row32 G).toArray 23)) p xs c (hx.upd_nil u1) (by omega)
  have hst := fun (W : World) => stream_walk W G px m cx
  rw [hn] at hl hc hcl ⊢
  rw [hm] at hX0 hXl hXc ⊢
  have Hn := Lib.hid hn
  have Hm := Lib.hid hm
  generalize hW1 : w.alloc (.cells (row32 G).toArray 23) = W1 at *
  have h1 : 1 ≤ 3 := by omega
  have hz : ∀ w : World, (zeroValue 26).run Try.prog w = .ok (.slice none 0 0) w := fun w => by kernel_rfl
  refine (callsIn_wide (n := 3)).1 ?_
  refine callsIn_of_wp_marks Try.func33 rfl trivial ?_ rfl
  simp only [Try.ntmps33, List.size_toArray, List.length_cons, List.length_nil, Nat.reduceAdd, Nat.reduceSub, Array.replicate_succ, Array.replicate_zero, List.push_toArray, List.append_toArray, List.nil_append, List.cons_append]
  gi_wp2_with (first
    | (refine ⟨trivial, ?_⟩; gi_at_call 48; refine (callsIn_wide.2 (hst _)).mono ?_; rintro e W5 ⟨rfl, k5, n5, u5⟩)
    | (have tok := hD2; refine wpListIn_load_row rfl _ _ rfl w.heap.size rfl 23 (row32 G).toArray (0, 0) _ (by have h := (hD2.alloc (.cells #[.slice p1 n c1] 26)).alloc (.cells #[.int .i64 0] 3); unfold Blk at h; exact h) Try.underlying23 rfl (infoK G) ?_)
    | (refine ⟨trivial, ?_⟩; gi_at_call 46; refine (callsIn_wide.2 hcl).mono ?_; rintro e w2 ⟨p1, c1, rfl, o1, u2⟩; have hD2 := hD.upd_nil u2))
  have hA1 := Blk.new w2 #[.slice p1 n c1] 26
  have hA2 := Blk.new (w2.alloc (.cells #[.slice p1 n c1] 26)) #[.int .i64 0] 3
  have uA := ((Upd.refl [] w2).alloc (.cells #[.slice p1 n c1] 26)).alloc (.cells #[.int .i64 0] 3)
  have hB7 := (hA1.alloc (.cells #[.int .i64 0] 3)).upd_nil u5
  have hB8 := hA2.upd_nil u5
  have hU := ((u1.trans_nil u2).trans_nil uA).trans_nil u5
  have hO0 := (o1.upd_nil uA).upd_nil u5
  have hgl := o1.lt
  have hw2 := (u1.trans_nil u2).size
  have hb1 : w.heap.size ≤ W1.heap.size := u1.size
  have hO : OwnB W5 w.heap.size (.slice p1 n c1) xs := hO0.mono hb1
  simp only [World.size_alloc] at k5 n5 hB8
  clear hA1 hA2 uA u5 u2 o1 hO0 hst hcl hD hD2 hW1 u1 hz
  obtain ⟨b7, hb7⟩ : ∃ b, w2.heap.size = b := ⟨_, rfl⟩
  rw [hb7] at hB7 hB8 k5 n5 hgl hw2 ⊢
  obtain ⟨b8, hb8⟩ : ∃ b, b7 + 1 = b := ⟨_, rfl⟩
  rw [hb8] at hB8 k5 n5 ⊢
  obtain ⟨kb, hkb⟩ : ∃ b, b8 + 1 = b := ⟨_, rfl⟩
  rw [hkb] at k5 n5 ⊢
  obtain ⟨nb, hnb⟩ : ∃ b, kb + 1 = b := ⟨_, rfl⟩
  rw [hnb] at n5 ⊢
  obtain ⟨gb, hgb, hgb1, hgb2⟩ : ∃ gb, (∀ g, (Value.slice p1 n c1).ownBlock = some g → g = gb) ∧ w.heap.size ≤ gb ∧ gb ≤ b7 := by
    cases hp : (Value.slice p1 n c1).ownBlock with
    | none => exact ⟨b7, (fun g e => nomatch e), hw2, Nat.le_refl _⟩
    | some g => exact ⟨g, (fun g' e => (Option.some.inj e).symm), Nat.le_trans hb1 (hgl g hp).1, Nat.le_of_lt (hgl g hp).2⟩
  obtain ⟨pb, po, hpx⟩ := hX.form (by omega)
  have hpb : pb < w.heap.size := by subst hpx; exact hX.lt (by omega)
  have hX5 := hX.upd_nil hU
  have Hpx := Lib.hid hpx
  clear hb7 hgl hpx
  refine wpIn_rangeFunc_ownF rfl h1 (gf := 56) (lb := #[.pointer (some ⟨kb, 0, none⟩), .pointer (some ⟨nb, 0, none⟩)]) rfl trivial (enters_of Try.func56 (by kernel_rfl) rfl)
    (str_stops 2 (by omega) kb nb W5.heap.size [gb, b7, b8] G hG px X cx hXr (by omega) (by omega) W5 (Nat.le_refl _) k5 ⟨k5.lt, by simp; omega⟩ (by rw [Hm.out]; exact n5) ⟨n5.lt, by simp; omega⟩ hX5 (fun b o e => by rw [Hpx.out] at e; cases e; exact ⟨Nat.lt_of_lt_of_le hpb hU.size, by simp; omega⟩))
    KpB.trans (fun W l o o' hl _ _ _ => KpB.putObj W l o' hl) (Below.refl _ _) (fun _ => rfl)
    (fun pre W => pre.length ≤ n ∧ Blk W b7 [.slice p1 n c1] 26 ∧ Blk W b8 [.int .i64 ((pre.length : Nat) : Int)] 3 ∧ OwnB W w.heap.size (.slice p1 n c1) (mixL xs pre) ∧ Upd [] w W)
    (fun cd pre W => cd = .exit 0 ∧ n < pre.length ∧ Blk W b7 [.slice p1 n c1] 26 ∧ OwnB W w.heap.size (.slice p1 n c1) (mixL xs pre) ∧ Upd [] w W)
    (fun pre A B row hs hg hr => ⟨hs.1, blk_turn hs.2.1 hg (fun r e => (hr r e).2), blk_turn hs.2.2.1 hg (fun r e => (hr r e).2), own_turn hs.2.2.2.1 hg (fun r e => (hr r e).2), hs.2.2.2.2.grown hg (fun k hk => Or.inr (Nat.le_trans hU.size (hr k hk).1))⟩)
    (fun cd pre A B row hs hg hr => ⟨hs.1, hs.2.1, blk_turn hs.2.2.1 hg (fun r e => (hr r e).2), own_turn hs.2.2.2.1 hg (fun r e => (hr r e).2), hs.2.2.2.2.grown hg (fun k hk => Or.inr (Nat.le_trans hU.size (hr k hk).1))⟩)
    ⟨by simp, hB7, hB8, by rw [mixL_nil]; exact hO, hU⟩
    (fun x => { tmps := #[.agg (row32 G).toArray, .slice px m cx, .slice p n c, .pointer (some ⟨w.heap.size, 0, none⟩), undef, undef, .slice none 0 0, .pointer (some ⟨b7, 0, none⟩), .pointer (some ⟨b8, 0, none⟩), .int .u8 x, .slice p n c, .slice p1 n c1, .agg (row32 G).toArray, .slice px m cx,
      .func (.func 56) #[] #[.pointer (some ⟨kb, 0, none⟩), .pointer (some ⟨nb, 0, none⟩)], .int .u8 x, undef, undef, undef, undef, undef, undef, undef, undef, undef, undef, undef, undef, undef, undef], defers := [] }) ?assign ?body ?done ?stop
  case assign =>
    intro l x W K hK
    gi_wp2
    exact hK
  case body =>
    rintro l pre x W ⟨hpl, h7, h8, ho, hu⟩ _
    have hlb := h8.lt
    have hl7 := h7.lt
    rcases Nat.lt_or_ge pre.length n with hlt | hge
    · obtain ⟨g, rfl, hbg, hgW, -, hcell, hfr, hset⟩ := ho.spot pre.length (by rw [mixL_len]; omega)
      rw [mixL_cur xs pre (by omega)] at hcell
      have hgg : g = gb := hgb g rfl
      subst hgg
      have hg8 : g ≠ b8 := by omega
      have hg8' : b8 ≠ g := by omega
      have hg7 : b7 ≠ g := h7.ne_own ho
      have hset' := hset (bits .xor .u8 (xs.getD pre.length 0) x)
      rw [mixL_step xs pre x (by omega)] at hset'
      have hO2 := own_setne hset' ⟨b8, 0, none⟩ (.int .i64 ((pre.length : Int) + 1)) (by simpa [Value.ownBlock] using hg8)
      have hK2 : KeepsOthers W ((W.setCell ⟨g, pre.length, none⟩ (.int .u8 (bits .xor .u8 (xs.getD pre.length 0) x))).setCell ⟨b8, 0, none⟩ (.int .i64 ((pre.length : Int) + 1))) := (KeepsOthers.setCell _ _ _).trans (KeepsOthers.setCell _ _ _)
      have hP2 : KpB W5.heap.size [g, b7, b8] W ((W.setCell ⟨g, pre.length, none⟩ (.int .u8 (bits .xor .u8 (xs.getD pre.length 0) x))).setCell ⟨b8, 0, none⟩ (.int .i64 ((pre.length : Int) + 1))) := ((KpB.refl _ _ W).setCell ⟨g, pre.length, none⟩ (by simp) _).setCell ⟨b8, 0, none⟩ (by simp) _
      have h72 := (h7.set_ne ⟨g, pre.length, none⟩ hg7 (.int .u8 (bits .xor .u8 (xs.getD pre.length 0) x))).set_ne ⟨b8, 0, none⟩ (by show b7 ≠ b8; omega) (.int .i64 ((pre.length : Int) + 1))
      have h82 := (h8.set_ne ⟨g, pre.length, none⟩ hg8' (.int .u8 (bits .xor .u8 (xs.getD pre.length 0) x))).set 0 (.int .i64 ((pre.length : Int) + 1))
      have hu2 := (hu.setCell (p := ⟨g, pre.length, none⟩) (Or.inr hbg) (.int .u8 (bits .xor .u8 (xs.getD pre.length 0) x))).setCell (p := ⟨b8, 0, none⟩) (Or.inr (by show w.heap.size ≤ b8; omega)) (.int .i64 ((pre.length : Int) + 1))
      have z7 := h7.cell 0 rfl
      have z8 := h8.cell 0 rfl
      have f8 := h8.free 0
      have i1 : (0 : Int) ≤ (pre.length : Int) := by omega
      have i2 : (pre.length : Int) < n := by omega
      have H1 := Lib.hid hO2
      have H2 := Lib.hid hK2
      have H3 := Lib.hid hP2
      have H4 := Lib.hid h72
      have e5 : (((pre ++ [x]).length : Nat) : Int) = (pre.length : Int) + 1 := by simp
      have H5 : Hid (Blk ((W.setCell ⟨g, pre.length, none⟩ (.int .u8 (bits .xor .u8 (xs.getD pre.length 0) x))).setCell ⟨b8, 0, none⟩ (.int .i64 ((pre.length : Int) + 1))) b8 [.int .i64 (((pre ++ [x]).length : Nat) : Int)] 3) := Lib.hid (by rw [e5]; exact h82)
      clear e5
      have H6 := Lib.hid hu2
      clear hO2 hK2 hP2 h72 h82 hu2 hset hset' hu h7 h8 ho
      generalize xs.getD pre.length 0 = y at *
      gi_wp2
      exact ⟨H2.out, H3.out, by simp; omega, H4.out, H5.out, H1.out, H6.out⟩
    · have z7 := h7.cell 0 rfl
      have z8 := h8.cell 0 rfl
      have i2 : (n : Int) ≤ (pre.length : Int) := by omega
      gi_wp2
      exact ⟨KeepsOthers.refl W, rfl, by simp; omega, h7, by rw [mixL_over xs pre x (by omega)]; exact ho, hu⟩
  case done =>
    rintro D ys W hD hys ⟨hpl, _⟩ hK
    exfalso
    omega
  case stop =>
    rintro D cd pre W hD hpre ⟨rfl, hpl, h7, ho, hu⟩ hK
    have z7 := h7.cell 0 rfl
    rw [hpre, mixL_all xs G X _ (by omega)] at ho
    gi_wp2
    refine ⟨by simp, .inl ⟨_, _, rfl, run_takeDeferred hK, ?_⟩⟩
    exact ⟨_, results_tmp rfl _ _ _, p1, c1, rfl, own_turn ho (grownBy_putObj' _ D _) (fun r e => by cases e; exact ⟨_, hK, rfl⟩), hu.grown (grownBy_putObj' _ D _) (fun k hk => by cases hk; exact Or.inr (Nat.le_trans hU.size hD))⟩

end Go.Proofs.Ytppbaahaegmgeaa

/- mask: Seal. -/
namespace Go.Proofs.Ytppbaahaegmgeaa
open Go.RowKit

theorem xor_u8_bd (a b : Int) : 0 ≤ bits BinOp.xor IntKind.u8 a b ∧ bits BinOp.xor IntKind.u8 a b ≤ 255 := by
  show 0 ≤ IntKind.u8.wrap _ ∧ IntKind.u8.wrap _ ≤ 255
  rw [IntKind.wrap_u8']
  omega
theorem xorB_rng (xs : List Int) (S : Nat → Int) : Rng (xorB xs S) := fun x hx => by
  obtain ⟨i, _, rfl⟩ := List.mem_map.1 hx
  exact xor_u8_bd _ _
theorem rowI_pos {n : Int} (h : okU n) : 0 < (rowI n).length := by
  unfold rowI
  rw [rowU_len]
  exact (szU_bd _ (by unfold okU at h; omega)).1
theorem rowsI_pos {a s r : Int} (h : NonceOk [a, s, r]) : 0 < (rowsI [a, s, r]).length := by
  have := rowI_pos (h a (by simp))
  unfold rowsI
  simp only [List.map_cons, List.flatten_cons, List.length_append]
  omega
theorem app_b3 {w : World} {ops : Array Oper} {rest : List Oper} {o : Oper} {a : Act} {Q : Exit → Act → World → Prop} (hgd : o.guard = none) (s x : Operand)
    (ho : o.op = .call { callee := .builtin .append, args := #[s, x], argTypes := #[26, 26] })
    (base : Nat) (v : Value) (xs : List Int) (n : Nat) (hn0 : xs.length = n) (hs : a.eval s = v) (hown : OwnB w base v xs) (px : Option Addr) (m c : Nat) (ys : List Int) (hx : a.eval x = .slice px m c) (hm : m = ys.length) (hy : ByAt w px ys)
    (hl : n + m ≤ 140737488355328) (hbase : base ≤ w.heap.size)
    (h : ∀ p' c' w', OwnB w' base (.slice p' (n + m) c') (xs ++ ys) → w.grownBy w' v.ownBlock → (∀ g, (Value.slice p' (n + m) c').ownBlock = some g → v.ownBlock = some g ∨ w.heap.size ≤ g) → wpList Try.prog ops Q rest (a.put o.dst (.slice p' (n + m) c')) w') : wpList Try.prog ops Q (o :: rest) a w := by
  subst hm
  subst hn0
  obtain ⟨i0, hi, hz0, hz1, hz2⟩ := info_parts info_u8
  refine wpList_append_any hgd s x 26 ho base 5 i0 _ 1 1 Try.underlying26 hi hz0 hz1 hz2 rfl (by decide) v xs.length (u8s xs) hs hown px ys.length c (u8s ys) hx (by rw [u8s_len]; omega) hy.src (u8s_one _) (by simp only [maxLen]; omega) (by omega) hbase ?_
  intro p' c' w' hown' hg hn
  refine h p' c' w' ?_ hg hn
  unfold OwnB
  rw [List.length_append, u8s_app]
  exact hown'

/-- What is sealed. -/
def outL (G : Nat → Int) (X xs : List Int) : List Int := xorB xs (stF G X)
def tagL (G : Nat → Int) (X ys : List Int) : List Int := (macL G 5 (X ++ ys)).take 16
theorem tagL_len (G : Nat → Int) (X ys : List Int) : (tagL G X ys).length = 16 := by unfold tagL; rw [List.length_take, macL_len]; rfl
theorem tagL_rng (G : Nat → Int) (X ys : List Int) : Rng (tagL G X ys) := (macL_rng _ _ _).take 16
def sealL (G : Nat → Int) (X xs : List Int) : List Int := outL G X xs ++ tagL G X (outL G X xs)

set_option maxRecDepth 100000 in
set_option maxHeartbeats 4000000 in
theorem seal_ok (w : World) (G : Nat → Int) (hG : RngF G) (a s r : Int) (hns : NonceOk [a, s, r]) (p : Option Addr) (xs : List Int) (c : Nat) (hx : ByAt w p xs) (hr : Rng xs) (hl : xs.length ≤ 65536) (hc : xs.length ≤ c) :
    Calls Try.prog 11 #[.agg (row32 G).toArray, .agg #[.int .i64 a, .int .i64 s, .int .i64 r], .slice p xs.length c] w fun e w' => ∃ p' c', e = .returned (.tuple #[.slice p' (xs.length + 16) c', .int .i64 0]) ∧ OwnB w' w.heap.size (.slice p' (xs.length + 16) c') (sealL G (rowsI [a, s, r]) xs) ∧ Upd [] w w' := by
  obtain ⟨n, hn⟩ : ∃ n, xs.length = n := ⟨_, rfl⟩
  obtain ⟨X, hX⟩ : ∃ X, rowsI [a, s, r] = X := ⟨_, rfl⟩
  have hXr : Rng X := by rw [← hX]; exact rowsI_rng _
  have hX0 : 0 < X.length := by rw [← hX]; exact rowsI_pos hns
  have hXl : X.length ≤ 24 := by rw [← hX]; exact rowsI_len hns
  obtain ⟨m, hm⟩ : ∃ m, X.length = m := ⟨_, rfl⟩
  have hrow : ∀ W, Calls Try.prog 32 #[.agg #[.int .i64 a, .int .i64 s, .int .i64 r]] W fun e w' => ∃ p c, e = .returned (.tuple #[.slice p m c, .int .i64 0]) ∧ ByAt w' p X ∧ m ≤ c ∧ Upd [] W w' := fun W => by
    refine (nrow_walk W a s r).mono ?_
    rintro e w' ⟨h1, _, h3⟩
    obtain ⟨p, c, rfl, ho⟩ := h1 hns
    rw [hX] at ho
    obtain ⟨p', c', e, hc', _⟩ := ho.form
    cases e
    exact ⟨p, c, by rw [hX, hm], ho.at_, by rw [← hm]; exact hc', h3⟩
  rw [hn] at hl hc ⊢
  rw [hm] at hX0 hXl
  rw [hX]
  have Hn := Lib.hid hn
  have Hm := Lib.hid hm
  have g1 : (0 : Int) ≤ n := by omega
  have g2 : (n : Int) ≤ 65536 := by omega
  have hz : ∀ w : World, (zeroValue 22).run Try.prog w = .ok (.agg (row32 fun _ => 0).toArray) w := fun w => by kernel_rfl
  clear hX
  go_enter Try.func11, Try.ntmps11
  go_upto_region 1 with fail
  have u1 := ((Upd.refl [] w).alloc (.cells (row32 G).toArray 23)).alloc (.cells #[.int .i64 a, .int .i64 s, .int .i64 r] 25)
  have hD : Blk ((w.alloc (.cells (row32 G).toArray 23)).alloc (.cells #[.int .i64 a, .int .i64 s, .int .i64 r] 25)) w.heap.size (row32 G) 23 := Blk.alloc (Blk.new w (row32 G).toArray 23) _
  have hN := Blk.new (w.alloc (.cells (row32 G).toArray 23)) #[.int .i64 a, .int .i64 s, .int .i64 r] 25
  rw [World.size_alloc] at hN
  generalize (w.alloc (.cells (row32 G).toArray 23)).alloc (.cells #[.int .i64 a, .int .i64 s, .int .i64 r] 25) = W1 at *
  have n0 := hN.cell 0 rfl
  have n1 := hN.cell 1 rfl
  have n2 := hN.cell 2 rfl
  generalize hd : w.heap.size = D at hD hN n0 n1 n2 ⊢
  have hrow := hrow W1
  go_upto_region 6 with (go_at_call 32; refine hrow.mono ?_; rintro e w2 ⟨q, d, rfl, hq, hqd, u2⟩)
  have t2 := u1.trans_nil u2
  have hD2 := hD.upd_nil u2
  have htn := turned_walk w2 G hG q X d hq hXr (by omega) (by omega) (by omega) p xs c (hx.upd_nil t2) hr (by omega) (by omega)
  have hyl : (outL G X xs).length = n := by unfold outL; rw [xorB_len]; exact hn
  have hyr : Rng (outL G X xs) := xorB_rng _ _
  rw [hm, hn] at htn
  have hS : Hid (sealL G X xs = outL G X xs ++ tagL G X (outL G X xs)) := Lib.hid rfl
  change Calls _ _ _ _ (fun e w' => ∃ p' c', e = _ ∧ OwnB w' _ _ (outL G X xs) ∧ Upd [] w2 w') at htn
  generalize hY : outL G X xs = Y at *
  clear hrow n0 n1 n2 hN hD u2 u1 hx hY
  go_upto_region 7 with (first
    | (go_at_call 33; refine htn.mono ?_; rintro e w3 ⟨p3, c3, rfl, o3, u3⟩; have hD3 := hD2.upd_nil u3)
    | (refine wpList_load_row rfl _ _ rfl D rfl _ (row32 G).toArray _ _ hD2 Try.underlying23 rfl (infoK G) ?_))
  have t3 := t2.trans_nil u3
  have hq3 := hq.upd_nil u3
  have hn3 : n ≤ c3 := by
    obtain ⟨p', c', e, h, _⟩ := o3.form
    cases e
    rw [hyl] at h; exact h
  have hb3 : w.heap.size ≤ w2.heap.size := t2.size
  have uB := (Upd.refl [] w3).alloc (.cells #[.slice q m d, .slice p3 n c3] 26)
  have hB := Blk.new w3 #[.slice q m d, .slice p3 n c3] 26
  have hrw := row2 (xs := X) (ys := Y) hB hm.symm hyl.symm (hq3.upd_nil uB) hXr (by omega) (o3.at_.upd_nil uB) hyr (by omega)
  have hof := of_mac _ G hG 5 (by omega) (some ⟨w3.heap.size, 0, none⟩) [X, Y] 2 hrw (by simp) (by simp) (by simp; omega)
  rw [show [X, Y].flatten = X ++ Y by simp] at hof
  simp only [List.length_cons, List.length_nil, Nat.zero_add, Nat.reduceAdd] at hof
  obtain ⟨F, hF⟩ : ∃ F, mac (keyL G) (5 :: (X ++ Y)) = F := ⟨_, rfl⟩
  rw [hF] at hof
  have HF := Lib.hid hF
  have t4 := t3.trans_nil uB
  have o4 := (o3.upd_nil uB).mono hb3
  clear hrw hB hF uB htn hD2 hq hq3 o3 u3 t3 t2
  go_upto_region 8 with (first
    | (go_at_call 34; refine hof.mono ?_; rintro e w5 ⟨rfl, u5⟩; have hR := Blk.new w5 (row32 fun _ => 0).toArray 22; have t5 := t4.trans_nil u5)
    | (refine wpList_store_rowTo rfl _ _ _ rfl rfl _ (row32 F).toArray rfl rfl _ (row32 fun _ => 0).toArray hR (info32 _) (size32 _ _) (one32 _) ?_)
    | (refine wpList_load_row rfl _ _ rfl D rfl _ (row32 G).toArray _ _ hD3 Try.underlying23 rfl (infoK G) ?_))
  have uR := ((Upd.refl [] w5).alloc (.cells (row32 fun _ => 0).toArray 22)).setRow (b := w5.heap.size) (Or.inr (Nat.le_refl _)) (row32 F).toArray
  have hR5 := hR.setRow (row32 F).toArray
  have t6 := t5.trans_nil uR
  have o6 := (o4.upd_nil u5).upd_nil uR
  clear hR uR u5 t5 hof o4 t4 hD3 hz
  generalize (w5.alloc (.cells (row32 fun _ => 0).toArray 22)).setRow w5.heap.size (row32 F).toArray = W6 at *
  generalize w5.heap.size = R at *
  have hT : ByAt W6 (some ⟨R, 0, none⟩) ((keyL F).take 16) := (row32_bytes hR5).take 16
  have HTl : Hid (16 = ((keyL F).take 16).length) := Lib.hid (by rw [List.length_take, keyL_len]; rfl)
  have hTag : Hid (tagL G X Y = (keyL F).take 16) := Lib.hid (by unfold tagL macL; rw [HF.out])
  have hbs := t6.size
  have HY : Hid (Y.length = n) := Lib.hid hyl
  clear hR5 hyl
  generalize (keyL F).take 16 = T at *
  go_wp2_with (at_builtin; (refine app_b3 rfl _ _ rfl w.heap.size (.slice p3 n c3) Y n HY.out rfl o6 (some ⟨R, 0, none⟩) 16 32 T rfl HTl.out hT (by omega) hbs ?_); rintro p7 c7 w7 o7 g7 _)
  go_ret2
  refine ⟨p7, c7, rfl, ?_, t6.grown_own g7 o6⟩
  rw [hS.out, hTag.out]
  exact o7

end Go.Proofs.Ytppbaahaegmgeaa

/- mask: Seal that refuses; Open. -/
namespace Go.Proofs.Ytppbaahaegmgeaa
open Go.RowKit

/-- A nonce's row, in the forms that Seal and Open want. -/
theorem nrow_no (W : World) (a s r : Int) (hns : ¬ NonceOk [a, s, r]) : Calls Try.prog 32 #[.agg #[.int .i64 a, .int .i64 s, .int .i64 r]] W fun e w' => e = .returned (.tuple #[.slice none 0 0, .int .i64 9]) ∧ Upd [] W w' := by
  refine (nrow_walk W a s r).mono ?_
  rintro e w' ⟨_, h2, h3⟩
  exact ⟨h2 hns, h3⟩
theorem nrow_ok (W : World) (a s r : Int) (hns : NonceOk [a, s, r]) (X : List Int) (m : Nat) (hX : rowsI [a, s, r] = X) (hm : X.length = m) : Calls Try.prog 32 #[.agg #[.int .i64 a, .int .i64 s, .int .i64 r]] W fun e w' => ∃ p c, e = .returned (.tuple #[.slice p m c, .int .i64 0]) ∧ ByAt w' p X ∧ m ≤ c ∧ Upd [] W w' := by
  refine (nrow_walk W a s r).mono ?_
  rintro e w' ⟨h1, _, h3⟩
  obtain ⟨p, c, rfl, ho⟩ := h1 hns
  rw [hX] at ho
  obtain ⟨p', c', e, hc', _⟩ := ho.form
  cases e
  exact ⟨p, c, by rw [hX, hm], ho.at_, by rw [← hm]; exact hc', h3⟩
/-- What lies in the boxes of a key and a nonce. -/
theorem boxes2 (w : World) (G : Nat → Int) (a s r : Int) :
    ∃ W1 D, (w.alloc (.cells (row32 G).toArray 23)).alloc (.cells #[.int .i64 a, .int .i64 s, .int .i64 r] 25) = W1 ∧ w.heap.size = D ∧ Upd [] w W1 ∧ Blk W1 D (row32 G) 23 ∧ W1.cell? ⟨D + 1, 0, none⟩ = some (.int .i64 a) ∧ W1.cell? ⟨D + 1, 1, none⟩ = some (.int .i64 s) ∧ W1.cell? ⟨D + 1, 2, none⟩ = some (.int .i64 r) := by
  have hN := Blk.new (w.alloc (.cells (row32 G).toArray 23)) #[.int .i64 a, .int .i64 s, .int .i64 r] 25
  rw [World.size_alloc] at hN
  exact ⟨_, _, rfl, rfl, ((Upd.refl [] w).alloc _).alloc _, Blk.alloc (Blk.new w (row32 G).toArray 23) _, hN.cell 0 rfl, hN.cell 1 rfl, hN.cell 2 rfl⟩

set_option maxRecDepth 100000 in
set_option maxHeartbeats 4000000 in
theorem seal_no (w : World) (G : Nat → Int) (a s r : Int) (hns : ¬ NonceOk [a, s, r]) (p : Option Addr) (n c : Nat) :
    Calls Try.prog 11 #[.agg (row32 G).toArray, .agg #[.int .i64 a, .int .i64 s, .int .i64 r], .slice p n c] w fun e w' => e = .returned (.tuple #[.slice none 0 0, .int .i64 9]) ∧ Upd [] w w' := by
  have hrow := fun W => nrow_no W a s r hns
  obtain ⟨W1, D, hW1, hd, u1, hD, n0, n1, n2⟩ := boxes2 w G a s r
  go_enter Try.func11, Try.ntmps11
  go_upto_region 1 with fail
  clear hW1 hd
  go_wp2_with (go_at_call 32; refine (hrow W1).mono ?_; rintro e w2 ⟨rfl, u2⟩)
  go_ret2
  exact ⟨rfl, u1.trans_nil u2⟩

set_option maxRecDepth 100000 in
set_option maxHeartbeats 4000000 in
theorem seal_big (w : World) (G : Nat → Int) (a s r : Int) (hns : NonceOk [a, s, r]) (p : Option Addr) (n c : Nat) (hn : 65536 < n) :
    Calls Try.prog 11 #[.agg (row32 G).toArray, .agg #[.int .i64 a, .int .i64 s, .int .i64 r], .slice p n c] w fun e w' => e = .returned (.tuple #[.slice none 0 0, .int .i64 5]) ∧ Upd [] w w' := by
  have hrow := fun W => nrow_ok W a s r hns _ _ rfl rfl
  generalize rowsI [a, s, r] = X at *
  have hn' : (65536 : Int) < n := by omega
  obtain ⟨W1, D, hW1, hd, u1, hD, n0, n1, n2⟩ := boxes2 w G a s r
  go_enter Try.func11, Try.ntmps11
  go_upto_region 1 with fail
  clear hW1 hd
  go_wp2_with (go_at_call 32; refine (hrow W1).mono ?_; rintro e w2 ⟨q, d, rfl, hq, hqd, u2⟩)
  go_ret2
  exact ⟨rfl, u1.trans_nil u2⟩

set_option maxRecDepth 100000 in
set_option maxHeartbeats 4000000 in
theorem open_no (w : World) (G : Nat → Int) (a s r : Int) (hns : ¬ NonceOk [a, s, r]) (p : Option Addr) (n c : Nat) (hn : n ≤ 100000000) :
    Calls Try.prog 14 #[.agg (row32 G).toArray, .agg #[.int .i64 a, .int .i64 s, .int .i64 r], .slice p n c] w fun e w' => e = .returned (.tuple #[.slice none 0 0, .int .i64 9]) ∧ Upd [] w w' := by
  have hrow := fun W => nrow_no W a s r hns
  have g1 : (0 : Int) ≤ n := by omega
  have g2 : (n : Int) ≤ 100000000 := by omega
  obtain ⟨W1, D, hW1, hd, u1, hD, n0, n1, n2⟩ := boxes2 w G a s r
  go_enter Try.func14, Try.ntmps14
  go_upto_region 1 with fail
  clear hW1 hd
  go_wp2_with (go_at_call 32; refine (hrow W1).mono ?_; rintro e w2 ⟨rfl, u2⟩)
  go_ret2
  exact ⟨rfl, u1.trans_nil u2⟩

set_option maxRecDepth 100000 in
set_option maxHeartbeats 4000000 in
theorem open_short (w : World) (G : Nat → Int) (a s r : Int) (hns : NonceOk [a, s, r]) (p : Option Addr) (n c : Nat) (hn : n < 16) :
    Calls Try.prog 14 #[.agg (row32 G).toArray, .agg #[.int .i64 a, .int .i64 s, .int .i64 r], .slice p n c] w fun e w' => e = .returned (.tuple #[.slice none 0 0, .int .i64 3]) ∧ Upd [] w w' := by
  have hrow := fun W => nrow_ok W a s r hns _ _ rfl rfl
  generalize rowsI [a, s, r] = X at *
  have g1 : (0 : Int) ≤ n := by omega
  have g2 : (n : Int) < 16 := by omega
  have g3 : (n : Int) - 16 < 0 := by omega
  obtain ⟨W1, D, hW1, hd, u1, hD, n0, n1, n2⟩ := boxes2 w G a s r
  go_enter Try.func14, Try.ntmps14
  go_upto_region 1 with fail
  clear hW1 hd
  go_wp2_with (go_at_call 32; refine (hrow W1).mono ?_; rintro e w2 ⟨q, d, rfl, hq, hqd, u2⟩)
  go_ret2
  exact ⟨rfl, u1.trans_nil u2⟩

set_option maxRecDepth 100000 in
set_option maxHeartbeats 4000000 in
theorem open_big (w : World) (G : Nat → Int) (a s r : Int) (hns : NonceOk [a, s, r]) (p : Option Addr) (n c : Nat) (hn : 65552 < n) (hn2 : n ≤ 100000000) :
    Calls Try.prog 14 #[.agg (row32 G).toArray, .agg #[.int .i64 a, .int .i64 s, .int .i64 r], .slice p n c] w fun e w' => e = .returned (.tuple #[.slice none 0 0, .int .i64 5]) ∧ Upd [] w w' := by
  have hrow := fun W => nrow_ok W a s r hns _ _ rfl rfl
  generalize rowsI [a, s, r] = X at *
  obtain ⟨m, hm⟩ : ∃ m, n = m + 16 := ⟨n - 16, by omega⟩
  have g0 : (n : Int) - 16 = m := by omega
  have g1 : (0 : Int) ≤ m := by omega
  have g2 : (65536 : Int) < m := by omega
  have g4 : (n : Int) ≤ 100000000 := by omega
  clear hm
  obtain ⟨W1, D, hW1, hd, u1, hD, n0, n1, n2⟩ := boxes2 w G a s r
  go_enter Try.func14, Try.ntmps14
  go_upto_region 1 with fail
  clear hW1 hd
  go_wp2_with (go_at_call 32; refine (hrow W1).mono ?_; rintro e w2 ⟨q, d, rfl, hq, hqd, u2⟩)
  go_ret2
  exact ⟨rfl, u1.trans_nil u2⟩

end Go.Proofs.Ytppbaahaegmgeaa

/- mask: Open. -/
namespace Go.Proofs.Ytppbaahaegmgeaa
open Go.RowKit

theorem own_of' {w : World} {base n : Nat} {v : Value} {xs : List Int} (hn : xs.length = n) (h : w.ownsRow base 5 1 v n (u8s xs)) : OwnB w base v xs := by
  subst hn; exact h
theorem own_to' {w : World} {base n : Nat} {v : Value} {xs : List Int} (hn : xs.length = n) (h : OwnB w base v xs) : w.ownsRow base 5 1 v n (u8s xs) := by
  subst hn; exact h

set_option maxRecDepth 100000 in
set_option maxHeartbeats 8000000 in
theorem open_ok (w : World) (G : Nat → Int) (hG : RngF G) (a s r : Int) (hns : NonceOk [a, s, r]) (p : Option Addr) (xs : List Int) (c : Nat) (hx : ByAt w p xs) (hr : Rng xs) (hc : xs.length ≤ c) (m : Nat) (hlm : xs.length = m + 16) (hml : m ≤ 65536) :
    Calls Try.prog 14 #[.agg (row32 G).toArray, .agg #[.int .i64 a, .int .i64 s, .int .i64 r], .slice p xs.length c] w fun e w' =>
      (tagL G (rowsI [a, s, r]) (xs.take m) ≠ xs.drop m → e = .returned (.tuple #[.slice none 0 0, .int .i64 150])) ∧
      (tagL G (rowsI [a, s, r]) (xs.take m) = xs.drop m → ∃ p' c', e = .returned (.tuple #[.slice p' m c', .int .i64 0]) ∧ OwnB w' w.heap.size (.slice p' m c') (outL G (rowsI [a, s, r]) (xs.take m))) ∧ Upd [] w w' := by
  obtain ⟨n, hn⟩ : ∃ n, xs.length = n := ⟨_, rfl⟩
  obtain ⟨X, hX⟩ : ∃ X, rowsI [a, s, r] = X := ⟨_, rfl⟩
  have hXr : Rng X := by rw [← hX]; exact rowsI_rng _
  have hX0 : 0 < X.length := by rw [← hX]; exact rowsI_pos hns
  have hXl : X.length ≤ 24 := by rw [← hX]; exact rowsI_len hns
  obtain ⟨mX, hm⟩ : ∃ m, X.length = m := ⟨_, rfl⟩
  have hrow := fun W => nrow_ok W a s r hns X mX hX hm
  rw [hn] at hc hlm ⊢
  rw [hm] at hX0 hXl
  rw [hX]
  have Hn := Lib.hid hn
  have Hm := Lib.hid hm
  have Hlm := Lib.hid hlm
  have g0 : (n : Int) - 16 = m := by omega
  have g1 : (0 : Int) ≤ m := by omega
  have g2 : (m : Int) ≤ 65536 := by omega
  have g3 : (m : Int) ≤ n := by omega
  have g4 : (m : Int) ≤ c := by omega
  have g5 : (n : Int) ≤ 65552 := by omega
  have g6 : m ≤ c := by omega
  have hz : ∀ w : World, (zeroValue 22).run Try.prog w = .ok (.agg (row32 fun _ => 0).toArray) w := fun w => by kernel_rfl
  clear hX hlm
  obtain ⟨W1, D, hW1, hd, u1, hD, n0, n1, n2⟩ := boxes2 w G a s r
  go_enter Try.func14, Try.ntmps14
  go_upto_region 1 with fail
  go_upto_region 9 with (go_at_call 32; refine (hrow W1).mono ?_; rintro e W2 ⟨q, d, rfl, hq, hqd, u2⟩)
  have HD := Lib.hid hd
  have hlm := Hlm.out
  clear hW1 hd hrow n0 n1 n2
  have t2 := u1.trans_nil u2
  have hDr : ∀ W, Upd [] W2 W → W.heap[D]? = some (.cells (row32 G).toArray 23 (0, 0)) := fun W u => by
    have := hD.upd_nil (u2.trans_nil u)
    unfold Blk at this
    exact this
  have hyl : (xs.take m).length = m := by rw [List.length_take]; omega
  have hdl : (xs.drop m).length = 16 := by rw [List.length_drop]; omega
  obtain ⟨F, hF⟩ : ∃ F, mac (keyL G) (5 :: (X ++ xs.take m)) = F := ⟨_, rfl⟩
  have HF := Lib.hid hF
  have hTag : Hid (tagL G X (xs.take m) = (keyL F).take 16) := Lib.hid (by unfold tagL macL; rw [hF])
  have hof : ∀ W g, Upd [] W2 W → Blk W g [.slice q mX d, .slice p m c] 26 → Calls Try.prog 34 #[.agg (row32 G).toArray, .int .u8 5, .slice (some ⟨g, 0, none⟩) 2 2] W fun e w' => e = .returned (.agg (row32 F).toArray) ∧ Upd [] W w' := fun W g u hg => by
    have hrw := row2 hg Hm.out.symm hyl.symm (hq.upd_nil u) hXr (by rw [Hm.out]; exact hqd) ((hx.take m).upd_nil (t2.trans_nil u)) (hr.take m) (by omega)
    have := of_mac _ G hG 5 (by omega) (some ⟨g, 0, none⟩) [X, xs.take m] 2 hrw (by simp) (by simp) (by have := Hm.out; simp; omega)
    rw [show [X, xs.take m].flatten = X ++ xs.take m by simp, HF.out] at this
    simp only [List.length_cons, List.length_nil, Nat.zero_add, Nat.reduceAdd] at this
    exact this
  clear hF hD g0 hlm u1 u2
  refine wp_region_head3 8 [(.s (.eq (.agg (row32 G).toArray))), (.s (.eq (.slice q mX d))), (.s (.eq (.slice p n c))), (.s (.eq (.int .i64 (m : Int)))), (.s (.eq (.slice p m c))), (.s (.sl 2 2 [.slice q mX d, .slice p m c] 26)), (.s (.eq (.agg (row32 F).toArray))), (isPtN W2.heap.size (row32 fun _ => 0) 22)] (by kernel_rfl) (by kernel_rfl) (by kernel_rfl) rfl ?step ?fin
  case step =>
    intro i o him ho a w' hS hold hneed K' hK
    match i, him, ho with
    | 0, _, ho =>
      obtain rfl := Option.some.inj ho
      have d3 := hold 3 _ (by kernel_rfl) rfl
      clear hold hneed ho
      (rw [if_pos (by simp [Region.wanted, yielded, *])]; exact wp_load_row 23 (.tmp 3) rfl D (by simp [Act.eval, *]) 23 _ (0, 0) _ (hDr _ hS) Try.underlying23 rfl (infoK _) (hK _ _ rfl (Upd.refl [] _)))
    | 1, _, ho =>
      obtain rfl := Option.some.inj ho
      have d8 := hold 8 _ (by kernel_rfl) rfl
      clear hold hneed ho
      (go_simp; exact hK _ _ rfl (Upd.refl [] _))
    | 2, _, ho =>
      obtain rfl := Option.some.inj ho
      have d2 := hold 2 _ (by kernel_rfl) rfl
      clear hold hneed ho
      (go_simp; exact hK _ _ rfl (Upd.refl [] _))
    | 3, _, ho =>
      obtain rfl := Option.some.inj ho
      have d10 := hold 10 _ (by kernel_rfl) rfl
      clear hold hneed ho
      (go_simp; exact hK _ _ rfl (Upd.refl [] _))
    | 4, _, ho =>
      obtain rfl := Option.some.inj ho
      have d32 := get_of_at (hneed 2 (of_decide_eq_true (by kernel_rfl)) 32 rfl) (by simp [undef])
      have d33 := get_of_at (hneed 3 (of_decide_eq_true (by kernel_rfl)) 33 rfl) (by simp [undef])
      clear hold hneed ho
      (go_simp; exact hK _ _ rfl (Upd.refl [] _))
    | 5, _, ho =>
      obtain rfl := Option.some.inj ho
      have d31 := get_of_at (hneed 1 (of_decide_eq_true (by kernel_rfl)) 31 rfl) (by simp [undef])
      have d34 := get_of_at (hneed 4 (of_decide_eq_true (by kernel_rfl)) 34 rfl) (by simp [undef])
      clear hold hneed ho
      (go_simp; exact hK _ _ ⟨_, rfl, Blk.new _ _ _⟩ ((Upd.refl [] _).alloc _))
    | 6, _, ho =>
      obtain rfl := Option.some.inj ho
      have d30 := get_of_at (hneed 0 (of_decide_eq_true (by kernel_rfl)) 30 rfl) (by simp [undef])
      obtain ⟨b35, e35, hB35⟩ := hneed 5 (of_decide_eq_true (by kernel_rfl)) 35 rfl
      have d35 := get_of_at e35 (by simp [undef])
      clear hold hneed ho
      (go_simp; refine (hof _ _ hS hB35).mono ?_; rintro e w3 ⟨rfl, hu3⟩; exact hK _ _ rfl hu3)
    | 7, _, ho =>
      obtain rfl := Option.some.inj ho
      clear hold hneed ho
      (go_simp; exact hK _ _ ⟨_, rfl, hS.size, Blk.new _ _ _⟩ ((Upd.refl [] _).alloc _))
    | _ + 8, him, _ => exact absurd him (by omega)
  case fin =>
    intro a w' hS hsz hdf hold hvals
    have R11 := hvals 7 11 (of_decide_eq_true (by kernel_rfl)) rfl
    obtain ⟨v11, hv11⟩ : ∃ v, at_ a 11 = v := ⟨_, rfl⟩
    rw [hv11] at R11
    obtain ⟨b35, hv35, hB35⟩ := hvals 5 35 (of_decide_eq_true (by kernel_rfl)) rfl
    have ha := act_lit hsz hdf (RowIs.cons (at_of_get (hold 0 _ (by kernel_rfl) rfl)) (RowIs.cons (at_of_get (hold 1 _ (by kernel_rfl) rfl)) (RowIs.cons (at_of_get (hold 2 _ (by kernel_rfl) rfl)) (RowIs.cons (at_of_get (hold 3 _ (by kernel_rfl) rfl)) (RowIs.cons (at_of_get (hold 4 _ (by kernel_rfl) rfl)) (RowIs.cons (at_of_get (hold 5 _ (by kernel_rfl) rfl)) (RowIs.cons (at_of_get (hold 6 _ (by kernel_rfl) rfl)) (RowIs.cons (at_of_get (hold 7 _ (by kernel_rfl) rfl)) (RowIs.cons (at_of_get (hold 8 _ (by kernel_rfl) rfl)) (RowIs.cons (at_of_get (hold 9 _ (by kernel_rfl) rfl)) (RowIs.cons (at_of_get (hold 10 _ (by kernel_rfl) rfl)) (RowIs.cons hv11 (RowIs.cons (at_of_get (hold 12 _ (by kernel_rfl) rfl)) (RowIs.cons (at_of_get (hold 13 _ (by kernel_rfl) rfl)) (RowIs.cons (at_of_get (hold 14 _ (by kernel_rfl) rfl)) (RowIs.cons (at_of_get (hold 15 _ (by kernel_rfl) rfl)) (RowIs.cons (at_of_get (hold 16 _ (by kernel_rfl) rfl)) (RowIs.cons (at_of_get (hold 17 _ (by kernel_rfl) rfl)) (RowIs.cons (at_of_get (hold 18 _ (by kernel_rfl) rfl)) (RowIs.cons (at_of_get (hold 19 _ (by kernel_rfl) rfl)) (RowIs.cons (at_of_get (hold 20 _ (by kernel_rfl) rfl)) (RowIs.cons (at_of_get (hold 21 _ (by kernel_rfl) rfl)) (RowIs.cons (at_of_get (hold 22 _ (by kernel_rfl) rfl)) (RowIs.cons (at_of_get (hold 23 _ (by kernel_rfl) rfl)) (RowIs.cons (at_of_get (hold 24 _ (by kernel_rfl) rfl)) (RowIs.cons (at_of_get (hold 25 _ (by kernel_rfl) rfl)) (RowIs.cons (at_of_get (hold 26 _ (by kernel_rfl) rfl)) (RowIs.cons (at_of_get (hold 27 _ (by kernel_rfl) rfl)) (RowIs.cons (at_of_get (hold 28 _ (by kernel_rfl) rfl)) (RowIs.cons (at_of_get (hold 29 _ (by kernel_rfl) rfl)) (RowIs.cons (hvals 0 30 (of_decide_eq_true (by kernel_rfl)) rfl) (RowIs.cons (hvals 1 31 (of_decide_eq_true (by kernel_rfl)) rfl) (RowIs.cons (hvals 2 32 (of_decide_eq_true (by kernel_rfl)) rfl) (RowIs.cons (hvals 3 33 (of_decide_eq_true (by kernel_rfl)) rfl) (RowIs.cons (hvals 4 34 (of_decide_eq_true (by kernel_rfl)) rfl) (RowIs.cons hv35 (RowIs.cons (hvals 6 36 (of_decide_eq_true (by kernel_rfl)) rfl) (RowIs.cons (at_of_get (hold 37 _ (by kernel_rfl) rfl)) (RowIs.cons (at_of_get (hold 38 _ (by kernel_rfl) rfl)) (RowIs.cons (at_of_get (hold 39 _ (by kernel_rfl) rfl)) (RowIs.cons (at_of_get (hold 40 _ (by kernel_rfl) rfl)) (RowIs.cons (at_of_get (hold 41 _ (by kernel_rfl) rfl)) (RowIs.cons (at_of_get (hold 42 _ (by kernel_rfl) rfl)) (RowIs.cons (at_of_get (hold 43 _ (by kernel_rfl) rfl)) (RowIs.cons (at_of_get (hold 44 _ (by kernel_rfl) rfl)) (RowIs.cons (at_of_get (hold 45 _ (by kernel_rfl) rfl)) (RowIs.cons (at_of_get (hold 46 _ (by kernel_rfl) rfl)) (RowIs.cons (at_of_get (hold 47 _ (by kernel_rfl) rfl)) (RowIs.cons (at_of_get (hold 48 _ (by kernel_rfl) rfl)) (RowIs.nil _ _)))))))))))))))))))))))))))))))))))))))))))))))))) rfl
    clear hsz hdf hold hvals
    subst ha
    simp only [List.getElem_toArray, List.getElem_cons_succ, List.getElem_cons_zero, List.drop_succ_cons, List.drop_zero]
    obtain ⟨b11, rfl, hb11, hB11⟩ := R11
    have hb11w : w.heap.size ≤ b11 := Nat.le_trans t2.size hb11
    go_upto_region 10 with (refine wpList_store_rowTo rfl _ _ _ rfl rfl _ (row32 F).toArray rfl rfl _ (row32 fun _ => 0).toArray hB11 (info32 _) (size32 _ _) (one32 _) ?_)
    have v5 := (t2.trans_nil hS).setRow (b := b11) (Or.inr hb11w) (row32 F).toArray
    have hq5 : ByAt (w'.setRow b11 (row32 F).toArray) q X := by
      have s1 := (Upd.refl [b11] w').setRow (b := b11) (Or.inl (by simp)) (row32 F).toArray
      exact (hq.upd_nil hS).upd s1 (fun b o e => by
        subst e
        have := hq.lt (by have := Hm.out; omega)
        simp; omega)
    have hDr5 : (w'.setRow b11 (row32 F).toArray).heap[D]? = some (.cells (row32 G).toArray 23 (0, 0)) := by
      have s1 := (Upd.refl [b11] w').setRow (b := b11) (Or.inl (by simp)) (row32 F).toArray
      have h0 : Blk w' D (row32 G) 23 := hDr w' hS
      have h1 : D < W2.heap.size := (show Blk W2 D (row32 G) 23 from hDr W2 (Upd.refl [] _)).lt
      have := h0.upd s1 (by simp; omega)
      exact this
    have hR5 := hB11.setRow (row32 F).toArray
    clear hB11 hDr hof hS hz hq hb11
    generalize w'.setRow b11 (row32 F).toArray = W5 at *
    have hDr : ∀ W, Upd [] W5 W → W.heap[D]? = some (.cells (row32 G).toArray 23 (0, 0)) := fun W u => by
      have := Blk.upd_nil (show Blk W5 D (row32 G) 23 from hDr5) u
      exact this
    obtain ⟨q2, hq2⟩ : ∃ q2, (if c = m then p else p.map (·.add m)) = q2 := ⟨_, rfl⟩
    obtain ⟨c2, hc2⟩ : ∃ c2, c - m = c2 := ⟨_, rfl⟩
    have h16 : n - m = 16 := by have := Hlm.out; omega
    obtain ⟨t, ht⟩ : ∃ t, decide ((keyL F).take 16 = xs.drop m) = t := ⟨_, rfl⟩
    have hsm : ∀ W, Upd [] W5 W → Calls Try.prog 38 #[.slice (some ⟨b11, 0, none⟩) 16 32, .slice q2 16 c2] W fun e w' => e = .returned (.bool t) ∧ Upd [] W w' := fun W u => by
      have hy := byAdv' (hx.upd_nil (v5.trans_nil u)) m c (by have := Hn.out; omega)
      rw [hq2] at hy
      have hFr : Rng ((keyL F).take 16) := by rw [← HF.out]; exact (keyL_rng (mac_bdK _ _)).take 16
      have hFl : ((keyL F).take 16).length = 16 := by rw [List.length_take, keyL_len]; rfl
      have := same_walk W (some ⟨b11, 0, none⟩) ((keyL F).take 16) 32 q2 (xs.drop m) c2 ((row32_bytes (hR5.upd_nil u)).take 16) hFr hy (hr.drop m) (by omega) (by omega)
      rw [hFl, hdl, ht] at this
      exact this
    obtain ⟨N, hN⟩ : ∃ N, w.heap.size = N := ⟨_, rfl⟩
    obtain ⟨Z, hZ⟩ : ∃ Z, outL G X (xs.take m) = Z := ⟨_, rfl⟩
    have hZl : Z.length = m := by rw [← hZ]; unfold outL; rw [xorB_len, hyl]
    have htn : ∀ W, Upd [] W5 W → Calls Try.prog 33 #[.agg (row32 G).toArray, .slice q mX d, .slice p m c] W fun e w' => ∃ p' c', e = .returned (.slice p' m c') ∧ w'.ownsRow N 5 1 (.slice p' m c') m (u8s Z) ∧ Upd [] W w' := fun W u => by
      have := turned_walk W G hG q X d (hq5.upd_nil u) hXr (by have := Hm.out; omega) (by have := Hm.out; omega) (by have := Hm.out; omega) p (xs.take m) c ((hx.take m).upd_nil (v5.trans_nil u)) (hr.take m) (by omega) (by omega)
      rw [hyl, Hm.out] at this
      refine this.mono ?_
      rintro e w' ⟨p', c', rfl, o, u'⟩
      change OwnB w' W.heap.size _ (outL G X (xs.take m)) at o
      rw [hZ] at o
      exact ⟨p', c', rfl, own_to' hZl (o.mono (by rw [← hN]; exact (v5.trans_nil u).size)), u'⟩
    have Hq2 := Lib.hid hq2
    have Hc2 := Lib.hid hc2
    have H16 := Lib.hid h16
    have Ht := Lib.hid ht
    have HN := Lib.hid hN
    have HZ := Lib.hid hZ
    have HZl := Lib.hid hZl
    clear hq2 hc2 h16 ht hR5 hN hZ hZl hq5 hDr5 hyl hdl
    refine wp_region_spec [(.eq (.slice (some ⟨b11, 0, none⟩) 16 32)), (.eq (.slice p n c)), (.eq (.int .i64 (m : Int))), (.eq (.slice q2 16 c2)), (.eq (.bool t)), (.eq (.bool (!t)))] (by kernel_rfl) (by kernel_rfl) rfl ?step ?fin
    case step =>
      intro i o ho a w' hS hold hneed K' hK
      match i, ho with
      | 0, ho =>
        obtain rfl := Option.some.inj ho
        have d11 := hold 11 _ (by kernel_rfl) rfl
        clear hold hneed ho
        (go_simp; exact hK _ _ rfl (Upd.refl [] _))
      | 1, ho =>
        obtain rfl := Option.some.inj ho
        have d2 := hold 2 _ (by kernel_rfl) rfl
        clear hold hneed ho
        (go_simp; exact hK _ _ rfl (Upd.refl [] _))
      | 2, ho =>
        obtain rfl := Option.some.inj ho
        have d10 := hold 10 _ (by kernel_rfl) rfl
        clear hold hneed ho
        (go_simp; exact hK _ _ rfl (Upd.refl [] _))
      | 3, ho =>
        obtain rfl := Option.some.inj ho
        have d38 := get_of_at (hneed 1 (of_decide_eq_true (by kernel_rfl)) 38 rfl) (by simp [undef])
        have d39 := get_of_at (hneed 2 (of_decide_eq_true (by kernel_rfl)) 39 rfl) (by simp [undef])
        clear hold hneed ho
        (go_simp; rw [Hq2.out, H16.out, Hc2.out]; exact hK _ _ rfl (Upd.refl [] _))
      | 4, ho =>
        obtain rfl := Option.some.inj ho
        have d37 := get_of_at (hneed 0 (of_decide_eq_true (by kernel_rfl)) 37 rfl) (by simp [undef])
        have d40 := get_of_at (hneed 3 (of_decide_eq_true (by kernel_rfl)) 40 rfl) (by simp [undef])
        clear hold hneed ho
        (go_simp; refine (hsm _ hS).mono ?_; rintro e w3 ⟨rfl, hu3⟩; exact hK _ _ rfl hu3)
      | 5, ho =>
        obtain rfl := Option.some.inj ho
        have d41 := get_of_at (hneed 4 (of_decide_eq_true (by kernel_rfl)) 41 rfl) (by simp [undef])
        clear hold hneed ho
        (go_simp; exact hK _ _ rfl (Upd.refl [] _))
      | _ + 6, ho => exact absurd ho (by simp)
    case fin =>
      intro a w' hS hsz hdf hold hvals
      have ha := act_lit hsz hdf (RowIs.cons (at_of_get (hold 0 _ (by kernel_rfl) rfl)) (RowIs.cons (at_of_get (hold 1 _ (by kernel_rfl) rfl)) (RowIs.cons (at_of_get (hold 2 _ (by kernel_rfl) rfl)) (RowIs.cons (at_of_get (hold 3 _ (by kernel_rfl) rfl)) (RowIs.cons (at_of_get (hold 4 _ (by kernel_rfl) rfl)) (RowIs.cons (at_of_get (hold 5 _ (by kernel_rfl) rfl)) (RowIs.cons (at_of_get (hold 6 _ (by kernel_rfl) rfl)) (RowIs.cons (at_of_get (hold 7 _ (by kernel_rfl) rfl)) (RowIs.cons (at_of_get (hold 8 _ (by kernel_rfl) rfl)) (RowIs.cons (at_of_get (hold 9 _ (by kernel_rfl) rfl)) (RowIs.cons (at_of_get (hold 10 _ (by kernel_rfl) rfl)) (RowIs.cons (at_of_get (hold 11 _ (by kernel_rfl) rfl)) (RowIs.cons (at_of_get (hold 12 _ (by kernel_rfl) rfl)) (RowIs.cons (at_of_get (hold 13 _ (by kernel_rfl) rfl)) (RowIs.cons (at_of_get (hold 14 _ (by kernel_rfl) rfl)) (RowIs.cons (at_of_get (hold 15 _ (by kernel_rfl) rfl)) (RowIs.cons (at_of_get (hold 16 _ (by kernel_rfl) rfl)) (RowIs.cons (at_of_get (hold 17 _ (by kernel_rfl) rfl)) (RowIs.cons (at_of_get (hold 18 _ (by kernel_rfl) rfl)) (RowIs.cons (at_of_get (hold 19 _ (by kernel_rfl) rfl)) (RowIs.cons (at_of_get (hold 20 _ (by kernel_rfl) rfl)) (RowIs.cons (at_of_get (hold 21 _ (by kernel_rfl) rfl)) (RowIs.cons (at_of_get (hold 22 _ (by kernel_rfl) rfl)) (RowIs.cons (at_of_get (hold 23 _ (by kernel_rfl) rfl)) (RowIs.cons (at_of_get (hold 24 _ (by kernel_rfl) rfl)) (RowIs.cons (at_of_get (hold 25 _ (by kernel_rfl) rfl)) (RowIs.cons (at_of_get (hold 26 _ (by kernel_rfl) rfl)) (RowIs.cons (at_of_get (hold 27 _ (by kernel_rfl) rfl)) (RowIs.cons (at_of_get (hold 28 _ (by kernel_rfl) rfl)) (RowIs.cons (at_of_get (hold 29 _ (by kernel_rfl) rfl)) (RowIs.cons (at_of_get (hold 30 _ (by kernel_rfl) rfl)) (RowIs.cons (at_of_get (hold 31 _ (by kernel_rfl) rfl)) (RowIs.cons (at_of_get (hold 32 _ (by kernel_rfl) rfl)) (RowIs.cons (at_of_get (hold 33 _ (by kernel_rfl) rfl)) (RowIs.cons (at_of_get (hold 34 _ (by kernel_rfl) rfl)) (RowIs.cons (at_of_get (hold 35 _ (by kernel_rfl) rfl)) (RowIs.cons (at_of_get (hold 36 _ (by kernel_rfl) rfl)) (RowIs.cons (hvals 0 37 rfl) (RowIs.cons (hvals 1 38 rfl) (RowIs.cons (hvals 2 39 rfl) (RowIs.cons (hvals 3 40 rfl) (RowIs.cons (hvals 4 41 rfl) (RowIs.cons (hvals 5 42 rfl) (RowIs.cons (at_of_get (hold 43 _ (by kernel_rfl) rfl)) (RowIs.cons (at_of_get (hold 44 _ (by kernel_rfl) rfl)) (RowIs.cons (at_of_get (hold 45 _ (by kernel_rfl) rfl)) (RowIs.cons (at_of_get (hold 46 _ (by kernel_rfl) rfl)) (RowIs.cons (at_of_get (hold 47 _ (by kernel_rfl) rfl)) (RowIs.cons (at_of_get (hold 48 _ (by kernel_rfl) rfl)) (RowIs.nil _ _)))))))))))))))))))))))))))))))))))))))))))))))))) rfl
      clear hsz hdf hold hvals
      subst ha
      try simp only [List.getElem_toArray, List.getElem_cons_succ, List.getElem_cons_zero]
      have v6 := v5.trans_nil hS
      cases t
      · go_wp2_with fail
        go_ret2
        have hne := of_decide_eq_false Ht.out
        exact ⟨fun _ => rfl, fun h => absurd (hTag.out.symm.trans h) hne, v6⟩
      · replace htn := fun (W : World) (u : Upd [] w' W) => htn W (hS.trans_nil u)
        replace hDr := fun (W : World) (u : Upd [] w' W) => hDr W (hS.trans_nil u)
        clear hS hsm v5
        obtain ⟨W6, rfl⟩ : ∃ W6, W6 = w' := ⟨_, rfl⟩
        go_upto_region 12 with fail
        refine wp_region_own [(.s (.eq (.agg (row32 G).toArray))), (.s (.eq (.slice q mX d))), (.s (.eq (.slice p n c))), (.s (.eq (.int .i64 (m : Int)))), (.s (.eq (.slice p m c))), (.own N 5 m (u8s Z)), (.own N 5 m (u8s Z)), (.s (.eq (.int .i64 0)))] 9999 (fun _ _ => False) (by kernel_rfl) (by kernel_rfl) rfl ?kp ?step ?fin
        case kp => intro k hk v wa wb h kp; exact kp.elim
        case step =>
          intro i o ho a w' hS hold hneed K' hK
          match i, ho with
          | 0, ho =>
            obtain rfl := Option.some.inj ho
            have d3 := hold 3 _ (by kernel_rfl) rfl
            clear hold hneed ho
            (rw [if_pos (by simp [Region.wanted, yielded, *])]; exact wp_load_row 23 (.tmp 3) rfl D (by simp [Act.eval, *]) 23 _ (0, 0) _ (hDr _ hS) Try.underlying23 rfl (infoK _) (hK _ _ rfl (Upd.refl [] _)))
          | 1, ho =>
            obtain rfl := Option.some.inj ho
            have d8 := hold 8 _ (by kernel_rfl) rfl
            clear hold hneed ho
            (go_simp; exact hK _ _ rfl (Upd.refl [] _))
          | 2, ho =>
            obtain rfl := Option.some.inj ho
            have d2 := hold 2 _ (by kernel_rfl) rfl
            clear hold hneed ho
            (go_simp; exact hK _ _ rfl (Upd.refl [] _))
          | 3, ho =>
            obtain rfl := Option.some.inj ho
            have d10 := hold 10 _ (by kernel_rfl) rfl
            clear hold hneed ho
            (go_simp; exact hK _ _ rfl (Upd.refl [] _))
          | 4, ho =>
            obtain rfl := Option.some.inj ho
            have d45 := get_of_at (hneed 2 (of_decide_eq_true (by kernel_rfl)) 45 rfl) (by simp [undef])
            have d46 := get_of_at (hneed 3 (of_decide_eq_true (by kernel_rfl)) 46 rfl) (by simp [undef])
            clear hold hneed ho
            (go_simp; exact hK _ _ rfl (Upd.refl [] _))
          | 5, ho =>
            obtain rfl := Option.some.inj ho
            have d43 := get_of_at (hneed 0 (of_decide_eq_true (by kernel_rfl)) 43 rfl) (by simp [undef])
            have d44 := get_of_at (hneed 1 (of_decide_eq_true (by kernel_rfl)) 44 rfl) (by simp [undef])
            have d47 := get_of_at (hneed 4 (of_decide_eq_true (by kernel_rfl)) 47 rfl) (by simp [undef])
            clear hold hneed ho
            (go_simp; refine (htn _ hS).mono ?_; rintro e w3 ⟨p3, c3, rfl, o3, hu3⟩; exact hK _ _ ⟨⟨_, _, rfl⟩, o3⟩ hu3)
          | 6, ho =>
            obtain rfl := Option.some.inj ho
            obtain ⟨⟨p48, c48, e48⟩, O48⟩ := hneed 5 (of_decide_eq_true (by kernel_rfl)) 48 rfl
            have d48 := get_of_at e48 (by simp [undef])
            clear hold hneed ho
            (rw [e48] at O48; go_simp; exact hK _ _ ⟨⟨_, _, rfl⟩, O48⟩ (Upd.refl [] _))
          | 7, ho =>
            obtain rfl := Option.some.inj ho
            clear hold hneed ho
            (go_simp; exact hK _ _ rfl (Upd.refl [] _))
          | _ + 8, ho => exact absurd ho (by simp)
        case fin =>
          intro a w' hS hsz hdf hold hvals
          obtain ⟨⟨p6, c6, hv6⟩, O6⟩ := hvals 6 6 rfl
          obtain ⟨⟨p48, c48, hv48⟩, O48⟩ := hvals 5 48 rfl
          have ha := act_lit hsz hdf (RowIs.cons (at_of_get (hold 0 _ (by kernel_rfl) rfl)) (RowIs.cons (at_of_get (hold 1 _ (by kernel_rfl) rfl)) (RowIs.cons (at_of_get (hold 2 _ (by kernel_rfl) rfl)) (RowIs.cons (at_of_get (hold 3 _ (by kernel_rfl) rfl)) (RowIs.cons (at_of_get (hold 4 _ (by kernel_rfl) rfl)) (RowIs.cons (at_of_get (hold 5 _ (by kernel_rfl) rfl)) (RowIs.cons hv6 (RowIs.cons (hvals 7 7 rfl) (RowIs.cons (at_of_get (hold 8 _ (by kernel_rfl) rfl)) (RowIs.cons (at_of_get (hold 9 _ (by kernel_rfl) rfl)) (RowIs.cons (at_of_get (hold 10 _ (by kernel_rfl) rfl)) (RowIs.cons (at_of_get (hold 11 _ (by kernel_rfl) rfl)) (RowIs.cons (at_of_get (hold 12 _ (by kernel_rfl) rfl)) (RowIs.cons (at_of_get (hold 13 _ (by kernel_rfl) rfl)) (RowIs.cons (at_of_get (hold 14 _ (by kernel_rfl) rfl)) (RowIs.cons (at_of_get (hold 15 _ (by kernel_rfl) rfl)) (RowIs.cons (at_of_get (hold 16 _ (by kernel_rfl) rfl)) (RowIs.cons (at_of_get (hold 17 _ (by kernel_rfl) rfl)) (RowIs.cons (at_of_get (hold 18 _ (by kernel_rfl) rfl)) (RowIs.cons (at_of_get (hold 19 _ (by kernel_rfl) rfl)) (RowIs.cons (at_of_get (hold 20 _ (by kernel_rfl) rfl)) (RowIs.cons (at_of_get (hold 21 _ (by kernel_rfl) rfl)) (RowIs.cons (at_of_get (hold 22 _ (by kernel_rfl) rfl)) (RowIs.cons (at_of_get (hold 23 _ (by kernel_rfl) rfl)) (RowIs.cons (at_of_get (hold 24 _ (by kernel_rfl) rfl)) (RowIs.cons (at_of_get (hold 25 _ (by kernel_rfl) rfl)) (RowIs.cons (at_of_get (hold 26 _ (by kernel_rfl) rfl)) (RowIs.cons (at_of_get (hold 27 _ (by kernel_rfl) rfl)) (RowIs.cons (at_of_get (hold 28 _ (by kernel_rfl) rfl)) (RowIs.cons (at_of_get (hold 29 _ (by kernel_rfl) rfl)) (RowIs.cons (at_of_get (hold 30 _ (by kernel_rfl) rfl)) (RowIs.cons (at_of_get (hold 31 _ (by kernel_rfl) rfl)) (RowIs.cons (at_of_get (hold 32 _ (by kernel_rfl) rfl)) (RowIs.cons (at_of_get (hold 33 _ (by kernel_rfl) rfl)) (RowIs.cons (at_of_get (hold 34 _ (by kernel_rfl) rfl)) (RowIs.cons (at_of_get (hold 35 _ (by kernel_rfl) rfl)) (RowIs.cons (at_of_get (hold 36 _ (by kernel_rfl) rfl)) (RowIs.cons (at_of_get (hold 37 _ (by kernel_rfl) rfl)) (RowIs.cons (at_of_get (hold 38 _ (by kernel_rfl) rfl)) (RowIs.cons (at_of_get (hold 39 _ (by kernel_rfl) rfl)) (RowIs.cons (at_of_get (hold 40 _ (by kernel_rfl) rfl)) (RowIs.cons (at_of_get (hold 41 _ (by kernel_rfl) rfl)) (RowIs.cons (at_of_get (hold 42 _ (by kernel_rfl) rfl)) (RowIs.cons (hvals 0 43 rfl) (RowIs.cons (hvals 1 44 rfl) (RowIs.cons (hvals 2 45 rfl) (RowIs.cons (hvals 3 46 rfl) (RowIs.cons (hvals 4 47 rfl) (RowIs.cons hv48 (RowIs.nil _ _)))))))))))))))))))))))))))))))))))))))))))))))))) rfl
          clear hsz hdf hold hvals
          subst ha
          try simp only [List.getElem_toArray, List.getElem_cons_succ, List.getElem_cons_zero]
          have v7 := v6.trans_nil hS
          have ho := own_of' HZl.out O6
          rw [hv6] at ho
          go_wp2_with fail
          go_ret2
          have he := of_decide_eq_true Ht.out
          refine ⟨fun h => absurd (hTag.out.trans he) h, fun _ => ⟨p6, c6, rfl, ?_⟩, v7⟩
          rw [HZ.out, HN.out]
          exact ho

end Go.Proofs.Ytppbaahaegmgeaa
