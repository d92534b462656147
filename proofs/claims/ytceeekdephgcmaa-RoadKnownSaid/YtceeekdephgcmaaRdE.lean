/- slices.Delete of one element of a row that is the call's own. -/
import Derived.Test.YtceeekdephgcmaaRdD
import Derived.Laws.IdiomCopy
import Derived.Deep.Upon
import Derived.Deep.MidRow
namespace Go.Proofs.Ytceeekdephgcmaa
open Go.RowKit

theorem heap_setCells_same {g : Nat} {e : TypeId} : ∀ (vs : List Value) (o : Nat) (w : World) (cur : Array Value), w.heap[g]? = some (.cells cur e (0, 0)) → ∃ cur', (w.setCells g o vs).heap[g]? = some (.cells cur' e (0, 0)) ∧ cur'.size = cur.size
  | [], o, w, cur, h => ⟨cur, h, rfl⟩
  | v :: vs, o, w, cur, h => by
    have h1 := heap_setCell_same w g o cur e v h
    obtain ⟨c2, h2, h3⟩ := heap_setCells_same vs (o + 1) _ _ h1
    exact ⟨c2, h2, by simpa using h3⟩

theorem own_of_cells {w : World} {g cap n size base : Nat} {e : TypeId} {cur : Array Value} {xs : List Value} (hg : w.heap[g]? = some (.cells cur e (0, 0))) (hb : base ≤ g) (hc : cur.size = cap * size) (hn : n ≤ cap) (hm : cap ≤ maxLen) (hx : xs.length = n * size)
    (h : ∀ j u, xs[j]? = some u → w.cell? ⟨g, j, none⟩ = some u) : w.ownsRow base e size (.slice (some ⟨g, 0, none⟩) n cap) n xs := by
  refine ⟨hx, .inr ⟨g, cap, cur, rfl, hb, hg, hn, hm, hc, ?_⟩⟩
  have hle : n * size ≤ cap * size := Nat.mul_le_mul_right _ hn
  apply List.ext_getElem?
  intro j
  rw [List.getElem?_take]
  by_cases hj : j < n * size
  · rw [if_pos hj]
    have hxj : xs[j]? = some xs[j] := List.getElem?_eq_getElem (by omega)
    have := h j _ hxj
    rw [cell_of_row w g j cur e (0, 0) hg] at this
    rw [hxj, ← this]; simp
  · rw [if_neg hj, List.getElem?_eq_none (by omega)]

theorem add_at0 (g o j : Nat) : (⟨g, o, none⟩ : Addr).add j = ⟨g, o + j, none⟩ := by unfold Addr.add; split <;> simp_all

theorem setCells_upd {g : Nat} : ∀ (vs : List Value) (o : Nat) (w : World), Upd [g] w (w.setCells g o vs)
  | [], o, w => Upd.refl _ _
  | v :: vs, o, w => ((Upd.refl [g] w).setCell (p := ⟨g, o, none⟩) (Or.inl (by simp)) v).trans_same (setCells_upd vs (o + 1) _)

theorem erase_get (l : List Pk) (i : Nat) (hi : i < l.length) : l.eraseIdx i = l.take i ++ l.drop (i + 1) := List.eraseIdx_eq_take_drop_succ _ _

theorem zero_pk (w : World) : (zeroValue 33).run Try.prog w = .ok (.agg #[.int .i64 0, .bool false, .slice none 0 0]) w := by kernel_rfl

/-- clear of one element of a row. -/
theorem clear_one (g o c : Nat) (ty : TypeId) (w : World) (hc : ∀ j, j < 3 → (w.cell? ⟨g, o + j, none⟩).isSome = true) (hf : ∀ j, w.frozen? ⟨g, j, none⟩ = false) :
    (Builtin.clear_ #[55] ty #[.slice (some ⟨g, o, none⟩) 1 c]).run Try.prog w = .ok (.tuple #[]) (w.setCells g o [.int .i64 0, .bool false, .slice none 0 0]) := by
  have hst := run_storeCells_cells (P := Try.prog) g o [.int .i64 0, .bool false, .slice none 0 0] 0 w (by simpa using hc) (by intro j hj; exact hf _) (by intro v hv; simp at hv; rcases hv with rfl | rfl | rfl <;> rfl)
  simp only [Nat.add_zero] at hst
  have hz : (Builtin.zeroCells #[Value.int .i64 0, .bool false, .slice none 0 0] 1).toList = [.int .i64 0, .bool false, .slice none 0 0] := by kernel_rfl
  simp [Builtin.clear_, run_underlying Try.underlying55, zero_pk, Value.cells, hz, hst]

set_option maxHeartbeats 2000000 in
set_option maxRecDepth 100000 in
theorem delete_any (g cap : Nat) (l : List Pk) (i M : Nat) (hM : l.length = i + M + 1) (hl : i + M + 1 ≤ 1024) (w : World) (h : w.ownsRow 0 33 3 (.slice (some ⟨g, 0, none⟩) (i + M + 1) cap) (i + M + 1) (pkVals l)) (h1 : ∀ u ∈ pkVals l, u.oneCell' = true) :
    Calls Try.prog 32 #[.slice (some ⟨g, 0, none⟩) (i + M + 1) cap, .int .i64 i, .int .i64 (i + 1)] w fun e w' =>
      e = .returned (.slice (some ⟨g, 0, none⟩) (i + M) cap) ∧ w'.ownsRow 0 33 3 (.slice (some ⟨g, 0, none⟩) (i + M) cap) (i + M) (pkVals (l.eraseIdx i)) ∧ Upd [g] w w' := by
  obtain ⟨i0, hi0, hz0, hz1, hz2⟩ := info_parts pk_info
  obtain ⟨cur, hg, hnc, hcm, hcs, htk⟩ : ∃ cur, w.heap[g]? = some (.cells cur 33 (0, 0)) ∧ i + M + 1 ≤ cap ∧ cap ≤ maxLen ∧ cur.size = cap * 3 ∧ cur.toList.take ((i + M + 1) * 3) = pkVals l := by
    rcases h.2 with ⟨h', _⟩ | ⟨g', cap', cur, h', _, hg, hnc, hcm, hcs, htk⟩
    · simp at h'
    · simp only [Value.slice.injEq, Option.some.injEq, Addr.mk.injEq, and_true, true_and] at h'
      obtain ⟨rfl, rfl⟩ := h'
      exact ⟨cur, hg, hnc, hcm, hcs, htk⟩
  have hcap : cap ≤ 9223372036854775807 := hcm
  have hnl : (pkVals (l.drop (i + 1))).length = M * 3 := by rw [pkVals_len, List.length_drop]; omega
  have hcell : ∀ j u, (pkVals (l.drop (i + 1)))[j]? = some u → w.drew.cell? ((⟨g, (i + 1) * 3, none⟩ : Addr).add j) = some u := fun j u hu => by
    rw [add_at0]
    have hj : j < M * 3 := by rw [← hnl]; exact (List.getElem?_eq_some_iff.1 hu).1
    show w.cell? _ = _
    rw [h.cellAt _ (by omega), ← hu]
    have hs : pkVals l = pkVals (l.take (i + 1)) ++ pkVals (l.drop (i + 1)) := by rw [← pkVals_app, List.take_append_drop]
    rw [hs, List.getElem?_append_right (by rw [pkVals_len, List.length_take]; omega)]
    congr 1
    rw [pkVals_len, List.length_take]; omega
  have hone : ∀ u ∈ pkVals (l.drop (i + 1)), u.oneCell' = true := fun u hu => h1 u (by
    rw [← List.take_append_drop (i + 1) l, pkVals_app]; exact List.mem_append_right _ hu)
  have hthere : ∀ j, j < cap * 3 → (w.cell? ⟨g, j, none⟩).isSome = true := fun j hj => by
    rw [cell_of_row w g j cur _ (0, 0) hg]
    simp; omega
  have hfree : ∀ j, w.frozen? ⟨g, j, none⟩ = false := fun j => frozen_of_row w g j cur _ hg
  have hI0 : (0 : Int) ≤ (i : Int) := by omega
  have hI3 : (0 : Int) ≤ (i : Int) + 1 := by omega
  have hIc : i ≤ cap := by omega
  have hI4 : i ≤ i + 1 := by omega
  have hI5 : (i : Int) ≤ (i : Int) + 1 := by omega
  have hI6 : (i : Int) ≤ (i : Int) + (M : Int) := by omega
  have hN : ∀ N, N = pkVals (l.drop (i + 1)) → (w.drew.setCells g (i * 3) N).ownsRow 0 33 3 (.slice (some ⟨g, 0, none⟩) (i + M) cap) (i + M) (pkVals (l.eraseIdx i)) ∧
      ((w.drew.setCells g (i * 3) N).setCells g ((i + M) * 3) [.int .i64 0, .bool false, .slice none 0 0]).ownsRow 0 33 3 (.slice (some ⟨g, 0, none⟩) (i + M) cap) (i + M) (pkVals (l.eraseIdx i)) := fun N hN => by
    have hNl : N.length = M * 3 := by rw [hN]; exact hnl
    obtain ⟨c1, hg1, hs1⟩ := heap_setCells_same N (i * 3) w.drew cur hg
    obtain ⟨c2, hg2, hs2⟩ := heap_setCells_same [.int .i64 0, .bool false, .slice none 0 0] ((i + M) * 3) _ c1 hg1
    have hlen : (pkVals (l.eraseIdx i)).length = (i + M) * 3 := by rw [pkVals_len, List.length_eraseIdx_of_lt (by omega)]; omega
    have hcells : ∀ j u, (pkVals (l.eraseIdx i))[j]? = some u → (w.drew.setCells g (i * 3) N).cell? ⟨g, j, none⟩ = some u := fun j u hu => by
      have hj : j < (i + M) * 3 := by rw [← hlen]; exact (List.getElem?_eq_some_iff.1 hu).1
      rw [erase_get l i (by omega), pkVals_app] at hu
      have htl : (pkVals (l.take i)).length = i * 3 := by rw [pkVals_len, List.length_take]; omega
      by_cases hji : j < i * 3
      · rw [List.getElem?_append_left (by omega)] at hu
        rw [World.cell?_setCells_out g N (i * 3) w.drew ⟨g, j, none⟩ (fun _ _ => .inl hji)]
        show w.cell? _ = _
        rw [h.cellAt _ (by omega), ← List.take_append_drop i l, pkVals_app, List.getElem?_append_left (by omega)]
        exact hu
      · rw [List.getElem?_append_right (by omega), htl, ← hN] at hu
        have hin := World.cell?_setCells_in g N (i * 3) w.drew (fun k hk => hthere _ (by omega)) (j - i * 3) (by omega)
        rw [show i * 3 + (j - i * 3) = j by omega] at hin
        rw [hin]
        obtain ⟨hb, hb2⟩ := List.getElem?_eq_some_iff.1 hu
        rw [hb2]
    refine ⟨own_of_cells hg1 (Nat.zero_le _) (by omega) (by omega) hcm hlen hcells, own_of_cells hg2 (Nat.zero_le _) (by omega) (by omega) hcm hlen fun j u hu => ?_⟩
    have hj : j < (i + M) * 3 := by rw [← hlen]; exact (List.getElem?_eq_some_iff.1 hu).1
    rw [World.cell?_setCells_out g _ ((i + M) * 3) _ ⟨g, j, none⟩ (fun _ _ => .inl hj)]
    exact hcells j u hu
  have hf1 : ∀ N j, (w.drew.setCells g (i * 3) N).frozen? ⟨g, j, none⟩ = false := fun N j => (World.frozen?_setCells g N _ _ _).trans (hfree j)
  have hc1 : ∀ N j, j < 3 → ((w.drew.setCells g (i * 3) N).cell? ⟨g, (i + M) * 3 + j, none⟩).isSome = true := fun N j hj => World.isSome_setCells g N _ _ _ (hthere _ (by omega))
  have hclr := fun N c => clear_one g ((i + M) * 3) c 0 (w.drew.setCells g (i * 3) N) (hc1 N) (hf1 N)
  have hup : ∀ N vs, Upd [g] w ((w.drew.setCells g (i * 3) N).setCells g ((i + M) * 3) vs) := fun N vs => (((Upd.refl [g] w).drew).trans_same (setCells_upd N _ _)).trans_same (setCells_upd vs _ _)
  by_cases hce : cap = i + 1
  · subst hce
    obtain rfl : M = 0 := by omega
    have hnil : pkVals (l.drop (i + 1)) = [] := List.eq_nil_of_length_eq_zero (by rw [hnl])
    have hclr' : ∀ N c, (Builtin.clear_ #[55] 0 #[.slice (some ⟨g, i * 3, none⟩) 1 c]).run Try.prog (w.drew.setCells g (i * 3) N) = .ok (.tuple #[]) ((w.drew.setCells g (i * 3) N).setCells g (i * 3) [.int .i64 0, .bool false, .slice none 0 0]) := fun N c => hclr N c
    have hNN := (hN _ rfl).2
    have hup' := hup (pkVals (l.drop (i + 1))) [.int .i64 0, .bool false, .slice none 0 0]
    rw [hnil] at hNN hup'
    clear hclr hN hup hI6 hM hl h hnl hcell hc1
    change Calls _ _ #[.slice (some ⟨g, 0, none⟩) (i + 1) (i + 1), .int .i64 i, .int .i64 (i + 1)] w fun e w' => e = .returned (.slice (some ⟨g, 0, none⟩) i (i + 1)) ∧ w'.ownsRow 0 33 3 (.slice (some ⟨g, 0, none⟩) i (i + 1)) i (pkVals (l.eraseIdx i)) ∧ Upd [g] w w'
    change World.ownsRow ((w.drew.setCells g (i * 3) _).setCells g (i * 3) _) 0 33 3 (.slice (some ⟨g, 0, none⟩) i (i + 1)) i _ at hNN
    change Upd [g] w ((w.drew.setCells g (i * 3) _).setCells g (i * 3) _) at hup'
    go_enter Try.func32, Try.ntmps32
    go_wp2_with fail
    go_region_law (refine step_append_room rfl (.tmp 22) (.tmp 25) 55 rfl 33 i0 3 Try.underlying55 hi0 hz1 g 0 i (i + 1) (by simp [Act.eval, Act.put]) ⟨g, 0, none⟩ 0 (i + 1 - (i + 1)) (pkVals (l.drop (i + 1))) (by simp [Act.eval, Act.put]) (by rw [hnil]; rfl) (fun j u hu => by rw [hnil] at hu; simp at hu) hone (by omega) (fun j hj => by rw [hnil] at hj; simp at hj) ?_)
    all_goals
      go_wp2_with fail
      go_ret
      exact ⟨rfl, hNN, hup'⟩
  · have hce' : ¬ (i + 1 = cap) := fun e => hce e.symm
    have hI1 : (i : Int) + 1 ≤ ((i + M + 1 : Nat) : Int) := by omega
    have hI2 : ((i + M + 1 : Nat) : Int) ≤ (cap : Int) := by omega
    go_enter Try.func32, Try.ntmps32
    go_wp2_with fail
    go_region_law (refine step_append_room rfl (.tmp 22) (.tmp 25) 55 rfl 33 i0 3 Try.underlying55 hi0 hz1 g 0 i cap (by simp [Act.eval, Act.put]) ⟨g, (i + 1) * 3, none⟩ M (cap - (i + 1)) (pkVals (l.drop (i + 1))) (by simp [Act.eval, Act.put]; try omega) hnl hcell hone (by omega) (fun j hj => ⟨hthere _ (by omega), hfree _⟩) ?_)
    all_goals
      go_wp2_with fail
      go_ret
      exact ⟨rfl, (hN _ rfl).2, hup _ _⟩

end Go.Proofs.Ytceeekdephgcmaa
