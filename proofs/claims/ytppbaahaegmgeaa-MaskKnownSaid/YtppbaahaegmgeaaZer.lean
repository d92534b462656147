/- 'append(row, make([]byte, m)...)' of a row of bytes that is the call's own: the model hands append the number m. -/
import Derived.Test.YtppbaahaegmgeaaByt
import Derived.Lib.AppendZeros
namespace Go.Proofs.Ytppbaahaegmgeaa
open Go.RowKit

theorem zeroCells_one (m : Nat) : Builtin.zeroCells #[Value.int .u8 0] m = (List.replicate m (Value.int .u8 0)).toArray := by
  apply Array.ext
  · simp [Builtin.zeroCells]
  · intro i h1 h2
    simp [Builtin.zeroCells, Nat.mod_one]

section
variable {P : Program} (w : World)

theorem run_append_zeros (t tn ty e : TypeId) (i : TypeInfo) (kn : IntKind) (ht : P.underlying t = some (.slice e)) (htn : P.underlying tn = some (.int kn)) (hi : P.info? e = some i) (hz : i.zero = some (.int .u8 0))
    (hs : i.size = 1) (hb : i.bytes = 1) (base : Nat) (v : Value) (n : Nat) (xs : List Value) (hown : w.ownsRow base e 1 v n xs) (m : Nat) (hl : n + m ≤ 140737488355328) (hbase : base ≤ w.heap.size) :
    ∃ v' w', (Builtin.append_ #[t, tn] ty #[v, .int kn m]).run P w = .ok v' w' ∧ w'.ownsRow base e 1 v' (n + m) (xs ++ List.replicate m (.int .u8 0)) ∧ w.grownBy w' v.ownBlock ∧ (∃ p c, v' = .slice p (n + m) c) ∧
      (∀ u k ys, w.ownsRow base e 1 u k ys → k ≤ n → w'.ownsRow base e 1 u k ys) := by
  have hzc : (Value.int IntKind.u8 0).cells = #[Value.int .u8 0] := rfl
  have hw : IntKind.i64.wrap (m : Int) = m := by rw [IntKind.wrap_i64]; omega
  have hneg : ¬ ((m : Int) < 0) := by omega
  have h48i : ¬ (281474976710656 < (m : Int)) := by omega
  have hxl : xs.length = n := by have := hown.1; omega
  have hlen : (xs ++ List.replicate m (Value.int IntKind.u8 0)).length = (n + m) * 1 := by simp [hxl]
  have grown : ∀ (old : Nat), ∀ (row : Option Nat),
      (w.drew.alloc (.cells (xs.toArray ++ (List.replicate m (Value.int .u8 0)).toArray ++ Builtin.zeroCells #[Value.int .u8 0] (grownCap w (n + m) old e - (n + m))) e)).ownsRow base e 1
        (.slice (some ⟨w.heap.size, 0, none⟩) (n + m) (grownCap w (n + m) old e)) (n + m) (xs ++ List.replicate m (.int .u8 0)) ∧
      w.grownBy (w.drew.alloc (.cells (xs.toArray ++ (List.replicate m (Value.int .u8 0)).toArray ++ Builtin.zeroCells #[Value.int .u8 0] (grownCap w (n + m) old e - (n + m))) e)) row := by
    intro old row
    have hge := grownCap_ge w (n + m) old e
    have hcm : grownCap w (n + m) old e ≤ maxLen := grownCap_le_maxLen w (n + m) old e (by simp only [maxLen]; omega)
    refine ⟨⟨hlen, .inr ⟨w.heap.size, _, _, rfl, hbase, heap_alloc_new w.drew _, hge, hcm, ?_, ?_⟩⟩, ⟨rfl, rfl, rfl, by simp, fun k hk _ => heap_alloc_old w.drew _ hk⟩⟩
    · simp only [Array.size_append, List.size_toArray, size_zeroCells, hxl, List.length_replicate]
      simp
      omega
    · simp only [Array.toList_append, List.append_assoc]
      rw [← List.append_assoc, ← hlen]
      exact List.take_left
  have hkeep : ∀ (o : Obj) u k ys, w.ownsRow base e 1 u k ys → k ≤ n → (w.drew.alloc o).ownsRow base e 1 u k ys := fun o u k ys h _ => by
    refine ⟨h.1, ?_⟩
    rcases h.2 with h1 | ⟨g, cap, cur, hv, hb, hg, rest⟩
    · exact .inl h1
    · refine .inr ⟨g, cap, cur, hv, hb, ?_, rest⟩
      rw [heap_alloc_old w.drew o (Array.getElem?_eq_some_iff.1 hg).1]
      exact hg
  rcases hown.2 with ⟨rfl, rfl⟩ | ⟨g, cap, cur, rfl, hbg, hg, hnc, hcm, hcs, htake⟩
  · obtain rfl : xs = [] := List.eq_nil_of_length_eq_zero hxl
    by_cases hm : m = 0
    · subst hm
      refine ⟨.slice none 0 0, w, ?_, World.ownsRow_nil w base e 1, ⟨rfl, rfl, rfl, Nat.le_refl _, fun _ _ _ => rfl⟩, ⟨none, 0, rfl⟩, fun _ _ _ h _ => h⟩
      have hw0 : IntKind.i64.wrap 0 = 0 := by decide
      simp [Builtin.append_, run_underlying ht, run_underlying htn, sizeOf, typeInfo, hi, asInt, asIntOf, hw0]
    · have hr := Lib.run_append_nil_zeros (P := P) w t tn ty e i (.int .u8 0) kn kn ht htn hi hz m (by omega) (by omega) (by omega) (by rw [hb]; omega)
      have hgr := grown 0 (Value.ownBlock (.slice none 0 0))
      rw [hzc, zeroCells_one m] at hr
      simp only [Nat.zero_add, List.nil_append, Array.empty_append] at hgr ⊢
      exact ⟨_, _, hr, hgr.1, hgr.2, ⟨_, _, rfl⟩, hkeep _⟩
  · by_cases hroom : n + m ≤ cap
    · have hfit : n + 0 + (List.replicate m (Value.int IntKind.u8 0)).length ≤ cur.size := by simp; omega
      have hst := run_storeCells_at P g n e (List.replicate m (Value.int .u8 0)) 0 cur w hg hfit (fun u hu => by rw [List.eq_of_mem_replicate hu]; rfl)
      simp only [Nat.add_zero] at hst
      refine ⟨.slice (some ⟨g, 0, none⟩) (n + m) cap, w.setRow g (cur.toList.take n ++ List.replicate m (Value.int .u8 0) ++ cur.toList.drop (n + (List.replicate m (Value.int IntKind.u8 0)).length)).toArray, ?_, ⟨hlen, .inr ⟨g, cap, _, rfl, hbg, setRow_heap w g cur _ e _ hg, hroom, hcm, ?_, ?_⟩⟩, ⟨rfl, rfl, rfl, by simp, fun k _ hk => setRow_other w g k _ (fun e => hk (by simp [Value.ownBlock, e]))⟩, ⟨_, _, rfl⟩, ?_⟩
      · by_cases hm : m = 0
        · subst hm
          have hw0 : IntKind.i64.wrap 0 = 0 := by decide
          have hst0 : (storeCells ((⟨g, 0, none⟩ : Addr).add n) []).run P w = .ok () w := by simp [storeCells]
          simp only [List.replicate_zero, List.append_nil, List.length_nil, Nat.add_zero, List.take_append_drop, Array.toArray_toList]
          rw [setRow_self w g cur e (0, 0) hg]
          simp [Builtin.append_, run_underlying ht, run_underlying htn, sizeOf, typeInfo, hi, hs, asInt, asIntOf, hw0, hnc, hst0]
        · have hadd : (⟨g, 0, none⟩ : Addr).add n = ⟨g, n, none⟩ := by unfold Addr.add; split <;> simp_all
          simp [Builtin.append_, run_underlying ht, run_underlying htn, sizeOf, typeInfo, zeroValue, hi, hz, hs, hb, asInt, asIntOf, hw, hneg, h48i, hroom, hm, hzc, zeroCells_one, hadd, hst]
      · simp only [List.size_toArray, List.length_append, List.length_take, List.length_drop, Array.length_toList, List.length_replicate]
        omega
      · rw [Nat.mul_one] at htake
        rw [htake, ← hlen]
        exact List.take_left
      · intro u k ys h hk
        refine ⟨h.1, ?_⟩
        rcases h.2 with h1 | ⟨g', cap', cur', hv, hb', hg', h3, h4, h5, h6⟩
        · exact .inl h1
        · by_cases hgg : g' = g
          · subst hgg
            have hcc : cur' = cur := by rw [hg] at hg'; cases hg'; rfl
            subst hcc
            refine .inr ⟨g', cap', _, hv, hb', setRow_heap w g' cur' _ e _ hg, h3, h4, ?_, ?_⟩
            · simp only [List.size_toArray, List.length_append, List.length_take, List.length_drop, Array.length_toList, List.length_replicate]
              omega
            · rw [← h6]
              simp only [List.append_assoc]
              rw [List.take_append_of_le_length (by rw [List.length_take, Array.length_toList]; omega), List.take_take]
              congr 1
              omega
          · refine .inr ⟨g', cap', cur', hv, hb', ?_, h3, h4, h5, h6⟩
            rw [setRow_other w g g' _ hgg]
            exact hg'
    · have holds : ∀ j u, xs[j]? = some u → w.cell? ((⟨g, 0, none⟩ : Addr).add j) = some u := hown.cells (g := g) rfl
      have hm : m ≠ 0 := by omega
      have h63' : ¬ (9223372036854775807 < ((n : Int) + (m : Int))) := by omega
      have h48' : ¬ (281474976710656 < Builtin.nextslicecap (n + m) cap) := by
        have := growslice_fits (need := n + m) (old := cap) (bytes := 1) (by omega) (by omega)
        omega
      have hfo := run_firstCells_some (P := P) w.drew 1 n ⟨g, 0, none⟩ n cap xs (by omega) (by simpa using holds)
      have hgr := grown cap (Value.ownBlock (.slice (some ⟨g, 0, none⟩) n cap))
      refine ⟨_, _, ?_, hgr.1, hgr.2, ⟨_, _, rfl⟩, hkeep _⟩
      simp [Builtin.append_, run_underlying ht, run_underlying htn, sizeOf, typeInfo, zeroValue, hi, hz, hs, hb, asInt, asIntOf, hw, hneg, h48i, hroom, hm, h63', h48', hzc, zeroCells_one, Question.forced, hfo, newRow, grownCap]
end

theorem wp_app_zeros {w : World} {o : Oper} {a : Act} {K : Act → World → Prop} {Q : Exit → Act → World → Prop} (s x : Operand)
    (ho : o.op = .call { callee := .builtin .append, args := #[s, x], argTypes := #[26, 3] })
    (base : Nat) (v : Value) (xs : List Int) (hs : a.eval s = v) (hown : OwnB w base v xs) (m : Nat) (hx : a.eval x = .int .i64 (m : Int)) (hl : xs.length + m ≤ 140737488355328) (hbase : base ≤ w.heap.size)
    (h : ∀ p c w', OwnB w' base (.slice p (xs.length + m) c) (xs ++ List.replicate m 0) → w.grownBy w' v.ownBlock → (∀ u, OwnB w base u xs → OwnB w' base u xs) → K (a.put o.dst (.slice p (xs.length + m) c)) w') : o.wp Try.prog a w K Q := by
  obtain ⟨i0, hi, hz0, hz1, hz2⟩ := info_parts info_u8
  obtain ⟨v', w', hr, h2, h3, ⟨p, c, rfl⟩, h5⟩ := run_append_zeros (P := Try.prog) w 26 3 o.type 5 i0 .i64 Try.underlying26 Try.underlying3 hi hz0 hz1 hz2 base v xs.length (u8s xs) hown m hl hbase
  refine Lib.wp_append_run w s x 26 3 ho v (.int .i64 m) hs hx _ w' hr ?_
  refine h p c w' ?_ h3 (fun u hu => h5 u xs.length (u8s xs) hu (Nat.le_refl _))
  unfold OwnB
  rw [List.length_append, List.length_replicate, u8s_app]
  have : u8s (List.replicate m 0) = List.replicate m (.int .u8 0) := by simp [u8s]
  rw [this]
  exact h2

end Go.Proofs.Ytppbaahaegmgeaa
