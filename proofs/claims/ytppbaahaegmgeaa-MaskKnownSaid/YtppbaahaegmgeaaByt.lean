/- Rows of bytes: what lies at an address; append of bytes to a row of the call's own. -/
import Derived.Test.YtppbaahaegmgeaaChecked
import Derived.Test.YtppbaahaegmgeaaApp
namespace Go.Proofs.Ytppbaahaegmgeaa
open Go.RowKit

def u8s (xs : List Int) : List Value := xs.map fun x => .int .u8 x
theorem u8s_len (xs : List Int) : (u8s xs).length = xs.length := by simp [u8s]
theorem u8s_one (xs : List Int) : ∀ u ∈ u8s xs, u.oneCell' = true := by
  intro u hu
  obtain ⟨x, _, rfl⟩ := List.mem_map.1 hu
  rfl
theorem u8s_app (xs ys : List Int) : u8s (xs ++ ys) = u8s xs ++ u8s ys := by simp [u8s]

def Rng (xs : List Int) : Prop := ∀ x ∈ xs, 0 ≤ x ∧ x ≤ 255
theorem Rng.app {xs ys : List Int} (h : Rng xs) (k : Rng ys) : Rng (xs ++ ys) := fun x hx => (List.mem_append.1 hx).elim (h x) (k x)
theorem Rng.take {xs : List Int} (h : Rng xs) (n : Nat) : Rng (xs.take n) := fun x hx => h x (List.mem_of_mem_take hx)
theorem Rng.drop {xs : List Int} (h : Rng xs) (n : Nat) : Rng (xs.drop n) := fun x hx => h x (List.mem_of_mem_drop hx)
theorem Rng.nil : Rng [] := fun x hx => absurd hx (by simp)
theorem Rng.getD {xs : List Int} (h : Rng xs) (i : Nat) : 0 ≤ xs.getD i 0 ∧ xs.getD i 0 < 256 := by
  rw [List.getD_eq_getElem?_getD]
  cases hx : xs[i]? with
  | none => simp
  | some x => have := h x (List.mem_of_getElem? hx); simp; omega

/-- The bytes xs lie at p. -/
def ByAt (w : World) (p : Option Addr) (xs : List Int) : Prop := ∀ i x, xs[i]? = some x → ∃ b o, p = some ⟨b, o, none⟩ ∧ b < w.heap.size ∧ w.cell? ⟨b, o + i, none⟩ = some (.int .u8 x)

theorem ByAt.nil (w : World) (p : Option Addr) : ByAt w p [] := fun i x h => by simp at h
theorem ByAt.upd {w w' : World} {p : Option Addr} {xs : List Int} (h : ByAt w p xs) {bs : List Nat} (u : Upd bs w w') (hb : ∀ b o, p = some ⟨b, o, none⟩ → b ∉ bs) : ByAt w' p xs := fun i x hx => by
  obtain ⟨b, o, rfl, hl, hc⟩ := h i x hx
  exact ⟨b, o, rfl, Nat.lt_of_lt_of_le hl u.size, (u.cell (a := ⟨b, o + i, none⟩) hl (hb b o rfl)).trans hc⟩
theorem ByAt.upd_nil {w w' : World} {p : Option Addr} {xs : List Int} (h : ByAt w p xs) (u : Upd [] w w') : ByAt w' p xs := h.upd u (fun _ _ _ => by simp)
theorem ByAt.cell {w : World} {b o : Nat} {xs : List Int} (h : ByAt w (some ⟨b, o, none⟩) xs) (i : Nat) (hi : i < xs.length) : w.cell? ⟨b, o + i, none⟩ = some (.int .u8 (xs.getD i 0)) := by
  obtain ⟨b', o', e, _, hc⟩ := h i _ (List.getElem?_eq_getElem hi)
  cases e
  rw [hc, List.getD_eq_getElem?_getD, List.getElem?_eq_getElem hi]; rfl
theorem ByAt.lt {w : World} {b o : Nat} {xs : List Int} (h : ByAt w (some ⟨b, o, none⟩) xs) (h0 : 0 < xs.length) : b < w.heap.size := by
  obtain ⟨b', o', e, hl, _⟩ := h 0 _ (List.getElem?_eq_getElem h0)
  cases e; exact hl
theorem ByAt.form {w : World} {p : Option Addr} {xs : List Int} (h : ByAt w p xs) (h0 : 0 < xs.length) : ∃ b o, p = some ⟨b, o, none⟩ := by
  obtain ⟨b', o', e, _⟩ := h 0 _ (List.getElem?_eq_getElem h0)
  exact ⟨b', o', e⟩
theorem ByAt.take {w : World} {p : Option Addr} {xs : List Int} (h : ByAt w p xs) (n : Nat) : ByAt w p (xs.take n) := fun i x hx => by
  rw [List.getElem?_take] at hx
  split at hx
  · exact h i x hx
  · cases hx
theorem ByAt.drop {w : World} {b o : Nat} {xs : List Int} (h : ByAt w (some ⟨b, o, none⟩) xs) (n : Nat) : ByAt w (some ⟨b, o + n, none⟩) (xs.drop n) := fun i x hx => by
  rw [List.getElem?_drop] at hx
  obtain ⟨b', o', e, hl, hc⟩ := h (n + i) x hx
  cases e
  exact ⟨b, o + n, rfl, hl, by rw [Nat.add_assoc]; exact hc⟩
theorem ByAt.of_blk {w : World} {b : Nat} {cs : List Value} {T : TypeId} (h : Blk w b cs T) {xs : List Int} {o : Nat} (hc : ∀ i x, xs[i]? = some x → cs[o + i]? = some (.int .u8 x)) : ByAt w (some ⟨b, o, none⟩) xs :=
  fun i x hx => ⟨b, o, rfl, h.lt, h.cell (o + i) (hc i x hx)⟩
theorem ByAt.one (w : World) (x : Int) (T : TypeId) : ByAt (w.alloc (.cells #[.int .u8 x] T)) (some ⟨w.heap.size, 0, none⟩) [x] :=
  ByAt.of_blk (Blk.new w #[.int .u8 x] T) (fun i y hy => by
    match i, hy with
    | 0, hy => simp at hy; subst hy; rfl)
theorem ByAt.src {w : World} {p : Option Addr} {xs : List Int} (h : ByAt w p xs) : Src w p xs.length (u8s xs) := by
  by_cases h0 : xs.length = 0
  · exact .inl h0
  · obtain ⟨b, o, rfl⟩ := h.form (by omega)
    refine .inr ⟨_, rfl, fun j u hu => ?_⟩
    simp only [u8s, List.getElem?_map, Option.map_eq_some_iff] at hu
    obtain ⟨x, hx, rfl⟩ := hu
    obtain ⟨b', o', e, _, hc⟩ := h j x hx
    cases e
    have : (⟨b, o, none⟩ : Addr).add j = ⟨b, o + j, none⟩ := by unfold Addr.add; split <;> simp_all
    rw [this]; exact hc
theorem ByAt.of_own {w : World} {base n c : Nat} {e : TypeId} {p : Option Addr} {xs : List Int} (h : w.ownsRow base e 1 (.slice p n c) n (u8s xs)) : ByAt w p xs := fun i x hx => by
  have hi : i < xs.length := (List.getElem?_eq_some_iff.1 hx).1
  have hn : xs.length = n := by have := h.1; rw [u8s_len] at this; omega
  rcases h.2 with ⟨_, h0⟩ | ⟨g, cap, cur, hv, hb, hh, _⟩
  · omega
  · cases hv
    have := h.cells (g := g) rfl i (.int .u8 x) (by simp [u8s, hx])
    have e2 : (⟨g, 0, none⟩ : Addr).add i = ⟨g, 0 + i, none⟩ := by unfold Addr.add; split <;> simp_all
    rw [e2] at this
    exact ⟨g, 0, rfl, (Array.getElem?_eq_some_iff.1 hh).1, this⟩

theorem info_u8 : (Try.prog.info? 5).map (fun i => (i.zero, i.size, i.bytes)) = some (some (.int .u8 0), 1, 1) := by kernel_rfl

/-- A row of bytes of the call's own, from block base on. -/
def OwnB (w : World) (base : Nat) (v : Value) (xs : List Int) : Prop := w.ownsRow base 5 1 v xs.length (u8s xs)
theorem OwnB.nil (w : World) (base : Nat) : OwnB w base (.slice none 0 0) [] := World.ownsRow_nil _ _ _ _
theorem OwnB.form {w : World} {base : Nat} {v : Value} {xs : List Int} (h : OwnB w base v xs) : ∃ p c, v = .slice p xs.length c ∧ xs.length ≤ c ∧ (xs ≠ [] → ∃ g, p = some ⟨g, 0, none⟩ ∧ base ≤ g ∧ g < w.heap.size) := by
  rcases h.2 with ⟨h1, h2⟩ | ⟨g, cap, cur, h1, hb, hh, hc, _⟩
  · exact ⟨none, 0, by rw [h1, h2], by omega, fun hx => absurd (List.eq_nil_of_length_eq_zero h2) hx⟩
  · exact ⟨_, cap, h1, hc, fun _ => ⟨g, rfl, hb, (Array.getElem?_eq_some_iff.1 hh).1⟩⟩
theorem OwnB.ge {w : World} {base n c b o : Nat} {xs : List Int} (h : OwnB w base (.slice (some ⟨b, o, none⟩) n c) xs) : base ≤ b ∧ b < w.heap.size := by
  have := h.lt b rfl
  exact this
theorem OwnB.at_ {w : World} {base n c : Nat} {p : Option Addr} {xs : List Int} (h : OwnB w base (.slice p n c) xs) : ByAt w p xs := by
  have hn : n = xs.length := by
    obtain ⟨p', c', e, _⟩ := h.form
    cases e; rfl
  subst hn
  exact ByAt.of_own h

theorem app_bytes {w : World} {ops : Array Oper} {rest : List Oper} {o : Oper} {a : Act} {Q : Exit → Act → World → Prop} (hgd : o.guard = none) (s x : Operand)
    (ho : o.op = .call { callee := .builtin .append, args := #[s, x], argTypes := #[26, 26] })
    (base : Nat) (v : Value) (xs : List Int) (hs : a.eval s = v) (hown : OwnB w base v xs) (px : Option Addr) (m c : Nat) (ys : List Int) (hx : a.eval x = .slice px m c) (hm : m = ys.length) (hy : ByAt w px ys)
    (hl : xs.length + ys.length ≤ 140737488355328) (hbase : base ≤ w.heap.size)
    (h : ∀ p' c' w', OwnB w' base (.slice p' (xs.length + ys.length) c') (xs ++ ys) → w.grownBy w' v.ownBlock → wpList Try.prog ops Q rest (a.put o.dst (.slice p' (xs.length + ys.length) c')) w') : wpList Try.prog ops Q (o :: rest) a w := by
  subst hm
  obtain ⟨i0, hi, hz0, hz1, hz2⟩ := info_parts info_u8
  refine wpList_append_any hgd s x 26 ho base 5 i0 _ 1 1 Try.underlying26 hi hz0 hz1 hz2 rfl (by decide) v xs.length (u8s xs) hs hown px ys.length c (u8s ys) hx (by rw [u8s_len]; omega) hy.src (u8s_one _) (by simp only [maxLen]; omega) (by omega) hbase ?_
  intro p' c' w' hown' hg _
  refine h p' c' w' ?_ hg
  unfold OwnB
  rw [List.length_append, u8s_app]
  exact hown'

end Go.Proofs.Ytppbaahaegmgeaa
