/- Open's 'open_rows', with what a row's cells weigh: each reading's weights are weights of the whole. No program in sight. -/
import Derived.Test.YtceeekdephgcmaaOpen
import Derived.SizedLaws
namespace Go.Proofs.Ytceeekdephgcmaa
open Go.RowKit Go.ChangeShapes Go.WideShapes Go.Deep

theorem weights_mem_all {H : Type} {P : Program} {e : TypeId} : ∀ {ds : List (DataW H)} {d : DataW H}, d ∈ ds → ∀ n ∈ d.weights P e, n ∈ DataW.weightsAll P e ds
  | d0 :: ds, d, hd, n, hn => by
    simp only [DataW.weightsAll, List.mem_append]
    rcases List.mem_cons.1 hd with rfl | hd
    · exact .inl hn
    · exact .inr (weights_mem_all hd n hn)

section
variable {H : Type} {enc : TypeId × Value → H} {P : Program} {W : World} {spare : Nat → Bool} {held : Bool} {b0 : Nat} {r : Reach}

theorem trod_cell_w : ∀ (d : Nat) {fuel : Nat} {t : TypeId} {cs : List Value} {x : DataW H × List MemPlace} {j : Nat} {tj : TypeId},
    DataW.trod enc P W 0 spare held fuel t cs = some x → cellTypeAt P d t j = some tj →
    ∃ v y m, cs[j]? = some v ∧ DataW.trod enc P W 0 spare held m tj [v] = some y ∧ ∀ n ∈ y.1.weights P tj, n ∈ x.1.weights P t := by
  intro d
  induction d with
  | zero => intro fuel t cs x j tj _ h; simp [cellTypeAt] at h
  | succ d ih =>
    intro fuel t cs x j tj h hc
    unfold cellTypeAt at hc
    split at hc
    · rename_i fs hs
      obtain ⟨f, hf, hc'⟩ := Option.bind_eq_some_iff.1 hc
      have hp := List.find?_some hf
      simp only [Bool.and_eq_true, decide_eq_true_eq] at hp
      have hm := List.mem_of_find?_eq_some hf
      obtain ⟨i, hi, hfi⟩ := List.getElem_of_mem hm
      obtain ⟨xs, n, _, hxx, hlen, hxl, hg⟩ := DataW.trod_struct hs h
      have hi' : i < fs.size := by simpa using hi
      have hfi' : fs[i]? = some f := by
        rw [Array.getElem?_eq_getElem hi']
        simpa using hfi
      have hgi := hg i f hfi'
      rw [List.getElem?_eq_getElem (by omega)] at hgi
      obtain ⟨v, y, m, hv, hy, hw⟩ := ih hgi hc'
      refine ⟨v, y, m, ?_, hy, fun n hn => ?_⟩
      · rw [List.getElem?_take, List.getElem?_drop] at hv
        split at hv
        · rw [show f.offset + (j - f.offset) = j by omega] at hv; exact hv
        · cases hv
      · rw [hxx]
        simp only [DataW.weights, hs]
        exact DataW.weights_mem_each (j := i) (t := f.type) (by simp [hfi']) (by rw [List.getElem?_map, List.getElem?_eq_getElem (by omega)]; rfl) n (hw n hn)
    · rename_i n e ha
      split at hc
      · rename_i hj
        obtain ⟨xs, m, _, hxx, hlen, hxl, hg⟩ := DataW.trod_array ha h
        have hpos : 0 < P.cellsOf e := by
          rcases Nat.eq_zero_or_pos (P.cellsOf e) with h0 | h0
          · rw [h0] at hj; omega
          · exact h0
        have hi : j / P.cellsOf e < n := Nat.div_lt_of_lt_mul (by rw [Nat.mul_comm]; exact hj)
        have hgi := hg _ hi
        rw [List.getElem?_eq_getElem (by omega)] at hgi
        obtain ⟨v, y, m', hv, hy, hw⟩ := ih hgi hc
        refine ⟨v, y, m', ?_, hy, fun n hn => ?_⟩
        · rw [List.getElem?_take, List.getElem?_drop] at hv
          split at hv
          · have := Nat.div_add_mod j (P.cellsOf e)
            rw [Nat.mul_comm] at this
            rw [this] at hv; exact hv
          · cases hv
        · rw [hxx]
          simp only [DataW.weights, ha]
          exact weights_mem_all (List.mem_map.2 ⟨_, List.getElem_mem (show j / P.cellsOf e < xs.length by omega), rfl⟩) n (hw n hn)
      · cases hc
    · rename_i td hs1 hs2 htd
      split at hc
      · rename_i hj
        cases hc
        subst hj
        obtain ⟨v, rfl⟩ := trod_one h (fun fs hh => hs1 fs (by rw [htd] at hh; exact Option.some.inj hh)) (fun n e hh => hs2 n e (by rw [htd] at hh; exact Option.some.inj hh))
        exact ⟨v, x, fuel, rfl, h, fun n hn => hn⟩
      · cases hc
    · cases hc

theorem open_rows_w {T E : TypeId} {v : Value} {d : DataW H} {p : List MemPlace} {k : Nat} (hT : P.underlying T = some (.slice E)) (hk : P.cellsOf E = k) (hk0 : 0 < k)
    (ok : Value.okWide P W r b0 T v) (h : DataW.Trod enc P W 0 (fun _ => true) held T v d p) :
    ∃ q len cap, v = .slice q len cap ∧ len ≤ maxLen ∧ ∀ i, i < len → ∃ b off, q = some ⟨b, off, none⟩ ∧ b < W.heap.size ∧
      ∀ j tj, j < k → cellTypeAt P 20 E j = some tj → ∃ u y m, W.cell? ⟨b, off + i * k + j, none⟩ = some u ∧ DataW.trod enc P W 0 (fun _ => true) held m tj [u] = some y ∧ ∀ n ∈ y.1.weights P tj, n ∈ d.weights P T := by
  obtain ⟨a0, len0, cap0, rfl⟩ := okWide_slice hT ok
  obtain ⟨fuel, hf⟩ := h
  rcases open_slice hT hf with ⟨hcs, _⟩ | ⟨a, len, cap, m, n, D, Pl, hcs, _, hl, hm, hmm, hxx, hx⟩
  · simp [Value.cells] at hcs
    obtain ⟨rfl, rfl, rfl⟩ := hcs
    exact ⟨none, 0, 0, rfl, by simp [maxLen], fun j hj => by omega⟩
  · simp [Value.cells] at hcs
    obtain ⟨rfl, rfl, rfl⟩ := hcs
    simp only [Prod.mk.injEq] at hxx
    refine ⟨some a, _, _, rfl, by omega, fun i hi => ?_⟩
    simp only [if_true] at hmm
    obtain ⟨cs0, hc0, _⟩ := hx 0 (by omega)
    obtain ⟨_, hcl0, hat0⟩ := World.cells?_some hc0
    have h00 := hat0 0 (by omega)
    rw [List.getElem?_eq_getElem (by omega), add_add] at h00
    have hs := spot_at (a := a) (by simpa using h00)
    have hlt : a.block < W.heap.size := by
      have := add_at h00
      exact lt_of_cell (a := ⟨a.block, _, none⟩) this
    refine ⟨a.block, a.off, by rw [← hs], hlt, fun j tj hj hc => ?_⟩
    obtain ⟨cs, hci, hti⟩ := hx i (by omega)
    obtain ⟨_, hcl, hat⟩ := World.cells?_some hci
    obtain ⟨u, y, m', hu, hy, hw⟩ := trod_cell_w 20 hti hc
    have hj2 := hat j (by omega)
    rw [hu, add_add, hk] at hj2
    have := add_at hj2
    refine ⟨u, y, m', by rw [Nat.add_assoc]; exact this, hy, fun n hn => ?_⟩
    rw [hxx.1]
    simp only [DataW.weights, hT, List.mem_cons, List.mem_append]
    exact .inr (.inl (weights_mem_all (List.mem_map.2 ⟨i, by simpa using hi, rfl⟩) n (hw n hn)))
end

/-- A weight of an argument. -/
theorem weigh {H : Type} {P : Program} {ts : List TypeId} {ds : List (DataW H)} {j : Nat} {T : TypeId} {d : DataW H} (ht : ts[j]? = some T) (hd : ds[j]? = some d) (hsz : (DataW.weightsEach P ts ds).all (· ≤ reachBytes) = true) : ∀ n ∈ d.weights P T, n ≤ 140737488351232 := by
  intro n hn
  have := List.all_eq_true.1 hsz n (DataW.weights_mem_each ht hd n hn)
  exact of_decide_eq_true this

/-- A slice's own weight. -/
theorem slice_weight {H : Type} {enc : TypeId × Value → H} {P : Program} {W : World} {held : Bool} {T E : TypeId} {m : Nat} {u : Value} {y : DataW H × List MemPlace} {p : Option Addr} {len c : Nat} (hT : P.underlying T = some (.slice E)) (hu : u = .slice p len c)
    (h : DataW.trod enc P W 0 (fun _ => true) held m T [u] = some y) : len = 0 ∨ ∃ n ∈ y.1.weights P T, len * P.bytesOf E ≤ n := by
  subst hu
  rcases open_slice hT h with ⟨hcs, _⟩ | ⟨a, len', cap, m, n, D, Pl, hcs, _, hl, hm, hmm, hx, _⟩
  · simp at hcs
    exact .inl hcs.2.1
  · simp at hcs
    obtain ⟨rfl, rfl, rfl⟩ := hcs
    right
    subst hx
    refine ⟨_, by simp only [DataW.weights, hT]; exact List.mem_cons_self, ?_⟩
    simp only [List.length_map, List.length_range]
    exact Nat.mul_le_mul_right _ (by omega)

end Go.Proofs.Ytceeekdephgcmaa
