/- Two knots beside two rows of the call's own; rows of byte slices. -/
import Derived.Test.YtclfmgkomkmbjaaDoorKnE
import Derived.Test.YtclfmgkomkmbjaaDoorKnI
namespace Go.Proofs.YtclfmgkomkmbjaaDoor
open Go.RowKit Go.ChangeShapes Go.WideShapes Go.Deep

/-- A slice of byte slices that is only read, below block B. -/
def BRows (w : World) (B : Nat) (q : Option Addr) (len : Nat) : Prop :=
  ∀ i, i < len → ∃ b off dp xs dc, q = some ⟨b, off, none⟩ ∧ b < B ∧ w.cell? ⟨b, off + i, none⟩ = some (.slice dp xs.length dc) ∧ Rng xs ∧ ByAt w dp xs ∧ xs.length ≤ maxLen ∧ xs.length ≤ dc

theorem BRows.upd {w w' : World} {B : Nat} {q : Option Addr} {len : Nat} (h : BRows w B q len) (hB : B ≤ w.heap.size) (u : Upd [] w w') : BRows w' B q len := by
  intro i hi
  obtain ⟨b, off, dp, xs, dc, h1, h2, h3, h4, h5, h6, h7⟩ := h i hi
  exact ⟨b, off, dp, xs, dc, h1, h2, by rw [u.cell (by show b < _; omega) (by simp)]; exact h3, h4, h5.upd_nil u, h6, h7⟩

theorem BytesAt.at_ {w : World} {p : Option Addr} {xs : List Int} {n c : Nat} (h : BytesAt w (.slice p n c) xs) : ByAt w p xs := fun i x hx => by
  have h0 : 0 < xs.length := Nat.lt_of_le_of_lt (Nat.zero_le i) (List.getElem?_eq_some_iff.1 hx).1
  obtain ⟨b, o, rfl, hb, hc⟩ := h.spot h0
  exact ⟨b, o, rfl, hb, hc i x hx⟩

theorem open_brows {H : Type} {enc : TypeId × Value → H} {P : Program} {W : World} {held : Bool} {r : Reach} {b0 : Nat} {T S B : TypeId} {v : Value} {d : DataW H} {p : List MemPlace} (hT : P.underlying T = some (.slice S)) (hk : P.cellsOf S = 1)
    (c0 : cellTypeAt P 20 S 0 = some S) (hS : P.underlying S = some (.slice B)) (hB : P.underlying B = some (.int .u8)) (hBc : P.cellsOf B = 1)
    (ok : Value.okWide P W r b0 T v) (h : DataW.Trod enc P W 0 (fun _ => true) held T v d p) :
    ∃ q len cap, v = .slice q len cap ∧ len ≤ maxLen ∧ BRows W W.heap.size q len := by
  obtain ⟨q, len, cap, rfl, hm, hx⟩ := open_rows hT hk (by omega) ok h
  refine ⟨q, len, cap, rfl, hm, fun i hi => ?_⟩
  obtain ⟨b, off, rfl, hb, hc⟩ := hx i hi
  obtain ⟨u4, _, _, e4, t4⟩ := hc 0 S (by omega) c0
  obtain ⟨xs, hbx, hlx, dp, dc, hu4, hdc⟩ := trod_bytes hS hB hBc t4
  subst hu4
  rw [Nat.mul_one, Nat.add_zero] at e4
  exact ⟨b, off, dp, xs, dc, rfl, hb, e4, hbx.1, hbx.at_, hlx, hdc⟩

theorem ByAt.of_heap {w w' : World} {p : Option Addr} {xs : List Int} (h : ByAt w p xs) (hs : w.heap.size ≤ w'.heap.size) (he : ∀ b o, p = some ⟨b, o, none⟩ → w'.heap[b]? = w.heap[b]?) : ByAt w' p xs := fun i x hx => by
  obtain ⟨b, o, rfl, hl, hc⟩ := h i x hx
  exact ⟨b, o, rfl, Nat.lt_of_lt_of_le hl hs, (World.cell?_of_block (a := ⟨b, o + i, none⟩) (he b o rfl)).trans hc⟩

theorem OwnB.of_heap {w w' : World} {base : Nat} {v : Value} {xs : List Int} (h : OwnB w base v xs) (he : ∀ g, v.ownBlock = some g → w'.heap[g]? = w.heap[g]?) : OwnB w' base v xs := by
  refine ⟨h.1, ?_⟩
  rcases h.2 with h1 | ⟨g, cap, cur, h1, h2, h3, h4⟩
  · exact .inl h1
  · exact .inr ⟨g, cap, cur, h1, h2, by rw [he g (by rw [h1]; rfl)]; exact h3, h4⟩

/-- A knot at block kb, of the bytes l; what it has left lies in a block as S says. -/
structure KnotOn (w : World) (S : Nat → Prop) (kb : Nat) (l : List Int) : Prop where
  rng : Rng l
  ex : ∃ rb p c, Blk w kb (knotCells rb (comp H0 l (l.length / 64)) (.slice p (l.length % 64) c) l.length) 68 ∧ Blk w rb (wrow 72 rowsF) 66 ∧
    ByAt w p (l.drop (64 * (l.length / 64))) ∧ (l.length % 64 ≠ 0 → ∀ b o, p = some ⟨b, o, none⟩ → S b ∧ b < w.heap.size) ∧ l.length % 64 ≤ c

theorem KnotOn.at_ {w : World} {S : Nat → Prop} {kb : Nat} {l : List Int} (h : KnotOn w S kb l) : KnotAt w 0 kb l := by
  obtain ⟨hr, rb, p, c, h1, h2, h3, h4, h5⟩ := h
  exact ⟨hr, rb, p, c, h1, h2, h3, fun b o e => Nat.zero_le _, h5⟩

theorem KnotAt.on {w : World} {B kb : Nat} {l : List Int} {S : Nat → Prop} (h : KnotAt w B kb l) (hS : ∀ b, B ≤ b → S b) : KnotOn w S kb l := by
  obtain ⟨hr, rb, p, c, h1, h2, h3, h4, h5⟩ := h
  refine ⟨hr, rb, p, c, h1, h2, h3, fun h0 b o e => ⟨hS b (h4 b o e), ?_⟩, h5⟩
  subst e
  exact h3.lt (by rw [List.length_drop]; omega)

theorem KnotOn.step {w w' : World} {S S' : Nat → Prop} {kb : Nat} {l : List Int} (h : KnotOn w S kb l) (hs : w.heap.size ≤ w'.heap.size) (hk : w'.heap[kb]? = w.heap[kb]?) (hr : ∀ rb, (∃ cs, Blk w rb cs 66) → w'.heap[rb]? = w.heap[rb]?)
    (hS : ∀ b, S b → b < w.heap.size → w'.heap[b]? = w.heap[b]? ∧ S' b) : KnotOn w' S' kb l := by
  obtain ⟨hrl, rb, p, c, h1, h2, h3, h4, h5⟩ := h
  refine ⟨hrl, rb, p, c, h1.of_heap hk, h2.of_heap (hr rb ⟨_, h2⟩), ?_, fun h0 b o e => ?_, h5⟩
  · by_cases h0 : l.length % 64 = 0
    · rw [List.drop_of_length_le (by omega)]; exact ByAt.nil _ _
    · exact h3.of_heap hs (fun b o e => by obtain ⟨k1, k2⟩ := h4 h0 b o e; exact (hS b k1 k2).1)
  · obtain ⟨k1, k2⟩ := h4 h0 b o e
    exact ⟨(hS b k1 k2).2, Nat.lt_of_lt_of_le k2 hs⟩

/-- Two knots, and two rows of the call's own beside them. -/
structure Pair (w : World) (base k1 k2 : Nat) (av bv : Value) (la lb lx ly : List Int) : Prop where
  bs : base ≤ w.heap.size
  l1 : k1 < base
  l2 : k2 < base
  ne : k1 ≠ k2
  a : OwnB w base av la
  b : OwnB w base bv lb
  ab : ∀ g, av.ownBlock = some g → bv.ownBlock ≠ some g
  x : KnotOn w (fun b => base ≤ b ∧ av.ownBlock ≠ some b ∧ bv.ownBlock ≠ some b) k1 lx
  y : KnotOn w (fun b => base ≤ b ∧ av.ownBlock ≠ some b ∧ bv.ownBlock ≠ some b) k2 ly

theorem Pair.swap {w : World} {base k1 k2 : Nat} {av bv : Value} {la lb lx ly : List Int} (h : Pair w base k1 k2 av bv la lb lx ly) : Pair w base k2 k1 bv av lb la ly lx :=
  ⟨h.bs, h.l2, h.l1, fun e => h.ne e.symm, h.b, h.a, fun g e k => h.ab g k e,
    h.y.step (Nat.le_refl _) rfl (fun _ _ => rfl) (fun b hb _ => ⟨rfl, hb.1, hb.2.2, hb.2.1⟩), h.x.step (Nat.le_refl _) rfl (fun _ _ => rfl) (fun b hb _ => ⟨rfl, hb.1, hb.2.2, hb.2.1⟩)⟩

theorem Pair.upd_nil {w w' : World} {base k1 k2 : Nat} {av bv : Value} {la lb lx ly : List Int} (h : Pair w base k1 k2 av bv la lb lx ly) (u : Upd [] w w') : Pair w' base k1 k2 av bv la lb lx ly := by
  have hh : ∀ b, b < w.heap.size → w'.heap[b]? = w.heap[b]? := fun b hb => u.block b hb (by simp)
  have hb := h.bs
  have h1 := h.l1
  have h2 := h.l2
  exact ⟨Nat.le_trans h.bs u.size, h.l1, h.l2, h.ne, h.a.of_heap (fun g e => hh g (h.a.lt g e).2), h.b.of_heap (fun g e => hh g (h.b.lt g e).2), h.ab,
    h.x.step u.size (hh _ (by omega)) (fun rb ⟨_, k⟩ => hh rb k.lt) (fun b k kb => ⟨hh b kb, k⟩), h.y.step u.size (hh _ (by omega)) (fun rb ⟨_, k⟩ => hh rb k.lt) (fun b k kb => ⟨hh b kb, k⟩)⟩

/-- The first knot has taken something. -/
theorem Pair.add {w w' : World} {base k1 k2 : Nat} {av bv : Value} {la lb lx ly lz : List Int} (h : Pair w base k1 k2 av bv la lb lx ly) (u : Upd [k1] w w') (hk : KnotAt w' w.heap.size k1 lz) : Pair w' base k1 k2 av bv la lb lz ly := by
  obtain ⟨hr, rb, p, c, g1, g2, g3, g4, g5⟩ := h.x
  have hh : ∀ b, b < w.heap.size → b ≠ k1 → w'.heap[b]? = w.heap[b]? := fun b hb hn => u.block b hb (by simpa using hn)
  have hb := h.bs
  have h1 := h.l1
  have h2 := h.l2
  refine ⟨Nat.le_trans h.bs u.size, h.l1, h.l2, h.ne, h.a.of_heap (fun g e => ?_), h.b.of_heap (fun g e => ?_), h.ab, hk.on (fun b hb' => ⟨by omega, fun e => ?_, fun e => ?_⟩), h.y.step u.size (hh _ (by omega) (fun e => h.ne e.symm)) (fun rb ⟨_, k⟩ => hh rb k.lt (fun e => ?_)) (fun b k kb => ⟨hh b kb (by omega), k⟩)⟩
  · have := h.a.lt g e; exact hh g this.2 (by omega)
  · have := h.b.lt g e; exact hh g this.2 (by omega)
  · have := h.a.lt b e; omega
  · have := h.b.lt b e; omega
  · exact blk_ne k g1 (by decide) e

/-- The first row has grown. -/
theorem Pair.app {w w' : World} {base k1 k2 : Nat} {av bv v' : Value} {la lb lx ly lz : List Int} (h : Pair w base k1 k2 av bv la lb lx ly) (ho : OwnB w' base v' lz) (hg : w.grownBy w' av.ownBlock)
    (hn : ∀ g, v'.ownBlock = some g → av.ownBlock = some g ∨ w.heap.size ≤ g) : Pair w' base k1 k2 v' bv lz lb lx ly := by
  have hh : ∀ b, b < w.heap.size → av.ownBlock ≠ some b → w'.heap[b]? = w.heap[b]? := fun b hb hn => hg.block b hb (fun e => hn e.symm)
  have hb := h.bs
  have h1 := h.l1
  have h2 := h.l2
  have hge : ∀ k, k < base → av.ownBlock ≠ some k := fun k hk e => by have := (h.a.lt k e).1; omega
  have hrows : ∀ rb, (∃ cs, Blk w rb cs 66) → w'.heap[rb]? = w.heap[rb]? := fun rb ⟨cs, k⟩ => hh rb k.lt (fun e => by
    rcases h.a.2 with ⟨k1, _⟩ | ⟨g, cap, cur, k1, _, k3, _⟩
    · rw [k1] at e; cases e
    · rw [k1] at e
      obtain rfl : g = rb := by simpa [Value.ownBlock] using e
      unfold Blk at k
      rw [k3] at k
      injection k with k
      injection k with _ k
      exact absurd k (by decide))
  refine ⟨Nat.le_trans h.bs hg.size, h.l1, h.l2, h.ne, ho, h.b.of_heap (fun g e => hh g (h.b.lt g e).2 (fun e2 => h.ab g e2 e)), fun g e e2 => ?_,
    h.x.step hg.size (hh _ (by omega) (hge _ h1)) hrows (fun b k kb => ⟨hh b kb k.2.1, k.1, fun e => ?_, k.2.2⟩), h.y.step hg.size (hh _ (by omega) (hge _ h2)) hrows (fun b k kb => ⟨hh b kb k.2.1, k.1, fun e => ?_, k.2.2⟩)⟩
  · rcases hn g e with k | k
    · exact h.ab g k e2
    · have := (h.b.lt g e2).2; omega
  · rcases hn b e with q | q
    · exact k.2.1 q
    · omega
  · rcases hn b e with q | q
    · exact k.2.1 q
    · omega

/-- As app_bytes, and where the new row stands. -/
theorem app_bytes3 {w : World} {ops : Array Oper} {rest : List Oper} {o : Oper} {a : Act} {Q : Exit → Act → World → Prop} (hgd : o.guard = none) (s x : Operand)
    (ho : o.op = .call { callee := .builtin .append, args := #[s, x], argTypes := #[22, 22] })
    (base : Nat) (v : Value) (xs : List Int) (n : Nat) (hn0 : xs.length = n) (hs : a.eval s = v) (hown : OwnB w base v xs) (px : Option Addr) (m c : Nat) (ys : List Int) (hx : a.eval x = .slice px m c) (hm : m = ys.length) (hy : ByAt w px ys)
    (hl : n + m ≤ 140737488355328) (hbase : base ≤ w.heap.size)
    (h : ∀ p' c' w', OwnB w' base (.slice p' (n + m) c') (xs ++ ys) → w.grownBy w' v.ownBlock → (∀ g, (Value.slice p' (n + m) c').ownBlock = some g → v.ownBlock = some g ∨ w.heap.size ≤ g) → wpList Tryd.prog ops Q rest (a.put o.dst (.slice p' (n + m) c')) w') : wpList Tryd.prog ops Q (o :: rest) a w := by
  subst hm
  subst hn0
  obtain ⟨i0, hi, hz0, hz1, hz2⟩ := info_parts info_u8
  refine wpList_append_any hgd s x 22 ho base 5 i0 _ 1 1 Tryd.underlying22 hi hz0 hz1 hz2 rfl (by decide) v xs.length (u8s xs) hs hown px ys.length c (u8s ys) hx (by rw [u8s_len]; omega) hy.src (u8s_one _) (by simp only [maxLen]; omega) (by omega) hbase ?_
  intro p' c' w' hown' hg hn
  refine h p' c' w' ?_ hg hn
  unfold OwnB
  rw [List.length_append, u8s_app]
  exact hown'

end Go.Proofs.YtclfmgkomkmbjaaDoor
