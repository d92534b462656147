/- EqBytes; a knot beside a row of the call's own. -/
import Derived.Test.YtcfoplnickdekaaDoorCpy
import Derived.Test.YtcfoplnickdekaaDoorKnR
import Derived.BigQuiet
import Derived.Deep.QuietTactic
namespace Go.Proofs.YtcfoplnickdekaaDoor
open Go.RowKit

set_option maxRecDepth 100000 in
set_option maxHeartbeats 4000000 in
theorem eqb_walk (w : World) (p : Option Addr) (xs : List Int) (c : Nat) (q : Option Addr) (d : Nat) (hx : ByAt w p xs) (hy : ByAt w q xs) (hr : Rng xs) (hl : xs.length ≤ 9223372036854775807) :
    Calls Tryd.prog 15 #[.slice p xs.length c, .slice q xs.length d] w fun e w' => e = .returned (.bool true) ∧ Upd [] w w' := by
  go_enter Tryd.func15, Tryd.ntmps15
  go_wp2_with fail
  go_loopw [5] (fun iv wr => ∃ ni : Nat, ni ≤ xs.length ∧ iv = .int .i64 ni ∧ Upd [] w wr) (fun iv _ => xs.length - (intOf iv).toNat)
  case atStart => exact ⟨0, by omega, rfl, Upd.refl [] w⟩
  case round =>
    obtain ⟨ni, hni, rfl, hu⟩ := hrel
    obtain ⟨wo, rfl⟩ : ∃ wo, wo = wr := ⟨_, rfl⟩
    by_cases hlt : ni < xs.length
    · obtain ⟨b, o, rfl⟩ := hx.form (by omega)
      obtain ⟨b2, o2, rfl⟩ := hy.form (by omega)
      have cx := (hx.upd_nil hu).cell ni hlt
      have cy := (hy.upd_nil hu).cell ni hlt
      have g1 : (0 : Int) ≤ ni := by omega
      have g2 : (ni : Int) < xs.length := by omega
      generalize xs.getD ni 0 = x at *
      go_upto_region 6 with fail
      go_quiet (fail)
      go_wp2_with fail
      exact ⟨⟨ni + 1, by omega, by go_num, hu.of_drewN _⟩, by simp [intOf]; omega⟩
    · obtain rfl : ni = xs.length := by omega
      go_wp2_with fail
      go_ret
      exact ⟨rfl, hu⟩

/-- A knot, and a row of the call's own beside it; what the knot has left lies where X says. -/
structure OneK (w : World) (base kb : Nat) (X : Nat → Prop) (av : Value) (la lx : List Int) : Prop where
  bs : base ≤ w.heap.size
  l1 : kb < base
  a : OwnB w base av la
  x : KnotOn w (fun b => base ≤ b ∧ av.ownBlock ≠ some b ∧ X b) kb lx

theorem OneK.weak {w : World} {base kb : Nat} {X Y : Nat → Prop} {av : Value} {la lx : List Int} (h : OneK w base kb X av la lx) (hXY : ∀ b, X b → Y b) : OneK w base kb Y av la lx :=
  ⟨h.bs, h.l1, h.a, h.x.step (Nat.le_refl _) rfl (fun _ _ => rfl) (fun b k _ => ⟨rfl, k.1, k.2.1, hXY b k.2.2⟩)⟩
theorem OneK.upd_nil {w w' : World} {base kb : Nat} {X : Nat → Prop} {av : Value} {la lx : List Int} (h : OneK w base kb X av la lx) (u : Upd [] w w') : OneK w' base kb X av la lx := by
  have hh : ∀ b, b < w.heap.size → w'.heap[b]? = w.heap[b]? := fun b hb => u.block b hb (by simp)
  have hb := h.bs
  have h1 := h.l1
  exact ⟨Nat.le_trans h.bs u.size, h.l1, h.a.of_heap (fun g e => hh g (h.a.lt g e).2), h.x.step u.size (hh _ (by omega)) (fun rb ⟨_, k⟩ => hh rb k.lt) (fun b k kb => ⟨hh b kb, k⟩)⟩
/-- The knot has taken something. -/
theorem OneK.add {w w' : World} {base kb : Nat} {X Y : Nat → Prop} {av : Value} {la lx lz : List Int} (h : OneK w base kb X av la lx) (u : Upd [kb] w w') (hk : KnotAt w' w.heap.size kb lz) (hY : ∀ b, w.heap.size ≤ b → Y b) : OneK w' base kb Y av la lz := by
  have hb := h.bs
  have h1 := h.l1
  refine ⟨Nat.le_trans h.bs u.size, h.l1, h.a.of_heap (fun g e => ?_), hk.on (fun b hb' => ⟨by omega, fun e => ?_, hY b hb'⟩)⟩
  · have := h.a.lt g e
    exact u.block g this.2 (by simp; omega)
  · have := h.a.lt b e; omega
/-- The row has grown. -/
theorem OneK.app {w w' : World} {base kb : Nat} {X : Nat → Prop} {av v' : Value} {la lx lz : List Int} (h : OneK w base kb X av la lx) (ho : OwnB w' base v' lz) (hg : w.grownBy w' av.ownBlock)
    (hn : ∀ g, v'.ownBlock = some g → av.ownBlock = some g ∨ w.heap.size ≤ g) : OneK w' base kb X v' lz lx := by
  have hh : ∀ b, b < w.heap.size → av.ownBlock ≠ some b → w'.heap[b]? = w.heap[b]? := fun b hb hn => hg.block b hb (fun e => hn e.symm)
  have hb := h.bs
  have h1 := h.l1
  have hge : ∀ k, k < base → av.ownBlock ≠ some k := fun k hk e => by have := (h.a.lt k e).1; omega
  have hrows : ∀ rb, (∃ cs, Blk w rb cs 49) → w'.heap[rb]? = w.heap[rb]? := fun rb ⟨cs, k⟩ => hh rb k.lt (fun e => by
    rcases h.a.2 with ⟨k1, _⟩ | ⟨g, cap, cur, k1, _, k3, _⟩
    · rw [k1] at e; cases e
    · rw [k1] at e
      obtain rfl : g = rb := by simpa [Value.ownBlock] using e
      unfold Blk at k
      rw [k3] at k
      injection k with k
      injection k with _ k
      exact absurd k (by decide))
  refine ⟨Nat.le_trans h.bs hg.size, h.l1, ho, h.x.step hg.size (hh _ (by omega) (hge _ h1)) hrows (fun b k kb => ⟨hh b kb k.2.1, k.1, fun e => ?_, k.2.2⟩)⟩
  rcases hn b e with q | q
  · exact k.2.1 q
  · omega
/-- A byte of another row has turned. -/
theorem OneK.turn {w : World} {base kb g i : Nat} {X : Nat → Prop} {av : Value} {la lx : List Int} (h : OneK w base kb X av la lx) (hg : base ≤ g) (ha : av.ownBlock ≠ some g) (hX : ∀ b, X b → b ≠ g) {n c : Nat} {zs : List Int} (hz : OwnB w base (.slice (some ⟨g, 0, none⟩) n c) zs) (v : Value) : OneK (w.setCell ⟨g, i, none⟩ v) base kb X av la lx := by
  have hh : ∀ b, b ≠ g → (w.setCell ⟨g, i, none⟩ v).heap[b]? = w.heap[b]? := fun b hb => Below.heap_setCell _ _ _ _ hb
  have h1 := h.l1
  have hs : w.heap.size ≤ (w.setCell ⟨g, i, none⟩ v).heap.size := by simp [World.setCell]
  refine ⟨Nat.le_trans h.bs hs, h.l1, h.a.of_heap (fun k e => hh k (fun e2 => ha (by rw [← e2]; exact e))), h.x.step hs (hh _ (by omega)) (fun rb ⟨cs, k⟩ => hh rb (fun e => ?_)) (fun b k _ => ⟨hh b (hX b k.2.2), k⟩)⟩
  subst e
  rcases hz.2 with ⟨k1, _⟩ | ⟨g', cap, cur, k1, _, k3, _⟩
  · cases k1
  · simp only [Value.slice.injEq, Option.some.injEq, Addr.mk.injEq, and_true, true_and] at k1
    obtain ⟨rfl, _⟩ := k1
    unfold Blk at k
    rw [k3] at k
    injection k with k
    injection k with _ k
    exact absurd k (by decide)

end Go.Proofs.YtcfoplnickdekaaDoor
