/- CopyBytes; rows of bytes of the call's own (for seats without the texts WxD, WxF, which hold the same). -/
import Derived.Test.YtppbaahaegmgeaaByt
import Derived.Laws.OwnMore
namespace Go.Proofs.Ytppbaahaegmgeaa
open Go.RowKit

set_option maxRecDepth 100000 in
theorem copy_walk (w : World) (p : Option Addr) (xs : List Int) (c : Nat) (hx : ByAt w p xs) (hl : xs.length ≤ 140737488355328) :
    Calls Try.prog 10 #[.slice p xs.length c] w fun e w' => ∃ p' c', e = .returned (.slice p' xs.length c') ∧ OwnB w' w.heap.size (.slice p' xs.length c') xs ∧ Upd [] w w' := by
  go_enter Try.func10, Try.ntmps10
  go_wp2_with (at_builtin; refine app_bytes rfl _ _ rfl w.heap.size _ [] rfl (OwnB.nil _ _) p xs.length c xs rfl rfl hx (by simp; omega) (Nat.le_refl _) ?_; rintro p2 c2 w2 hown2 hgrow2; simp only [List.nil_append, List.length_nil, Nat.zero_add] at hown2)
  go_ret
  exact ⟨p2, c2, by simp, hown2, (Upd.refl [] w).grown hgrow2 (fun k hk => nomatch hk)⟩

theorem take_eq_step {xs ys : List Int} {n : Nat} (h1 : n < xs.length) (h2 : n < ys.length) : xs.take (n + 1) = ys.take (n + 1) ↔ xs.take n = ys.take n ∧ xs.getD n 0 = ys.getD n 0 := by
  rw [List.take_add_one, List.take_add_one, List.getElem?_eq_getElem h1, List.getElem?_eq_getElem h2, List.getD_eq_getElem?_getD, List.getD_eq_getElem?_getD, List.getElem?_eq_getElem h1, List.getElem?_eq_getElem h2]
  constructor
  · intro h
    have := List.append_inj h (by rw [List.length_take, List.length_take]; omega)
    exact ⟨this.1, by simpa using this.2⟩
  · rintro ⟨h1, h2⟩
    rw [h1]
    simp only [Option.getD_some] at h2
    rw [h2]

theorem OwnB.mono {w : World} {b b' : Nat} {v : Value} {xs : List Int} (h : OwnB w b v xs) (hb : b' ≤ b) : OwnB w b' v xs := by
  refine ⟨h.1, ?_⟩
  rcases h.2 with h1 | ⟨g, cap, cur, h1, h2, h3⟩
  · exact .inl h1
  · exact .inr ⟨g, cap, cur, h1, Nat.le_trans hb h2, h3⟩
theorem OwnB.upd_nil {w w' : World} {base : Nat} {v : Value} {xs : List Int} (h : OwnB w base v xs) (u : Upd [] w w') : OwnB w' base v xs := by
  refine ⟨h.1, ?_⟩
  rcases h.2 with h1 | ⟨g, cap, cur, h1, h2, h3, h4⟩
  · exact .inl h1
  · exact .inr ⟨g, cap, cur, h1, h2, by rw [u.block g (Array.getElem?_eq_some_iff.1 h3).1 (by simp)]; exact h3, h4⟩
/-- A row of the call's own that is not empty: its block, a cell of it, and the row with one byte turned. -/
theorem OwnB.spot {w : World} {base n c : Nat} {p : Option Addr} {xs : List Int} (h : OwnB w base (.slice p n c) xs) (i : Nat) (hi : i < xs.length) :
    ∃ g, p = some ⟨g, 0, none⟩ ∧ base ≤ g ∧ g < w.heap.size ∧ n = xs.length ∧ w.cell? ⟨g, i, none⟩ = some (.int .u8 (xs.getD i 0)) ∧ w.frozen? ⟨g, i, none⟩ = false ∧
      ∀ v, OwnB (w.setCell ⟨g, i, none⟩ (.int .u8 v)) base (.slice p n c) (xs.set i v) := by
  obtain ⟨p', c', e, hc, hg⟩ := h.form
  cases e
  obtain ⟨g, rfl, hb, hl⟩ := hg (fun e => by rw [e] at hi; simp at hi)
  have hc := h.cellAt i (by omega)
  refine ⟨g, rfl, hb, hl, rfl, ?_, h.frozenAt i, fun v => ?_⟩
  · rw [hc]
    unfold u8s
    rw [List.getElem?_map, List.getElem?_eq_getElem hi, List.getD_eq_getElem?_getD, List.getElem?_eq_getElem hi]; rfl
  · have hs := (h.stored i (.int .u8 v)).1
    unfold OwnB
    rw [List.length_set]
    have e : u8s (xs.set i v) = (u8s xs).set i (.int .u8 v) := by unfold u8s; rw [List.map_set]
    rw [e]
    exact hs

end Go.Proofs.Ytppbaahaegmgeaa
