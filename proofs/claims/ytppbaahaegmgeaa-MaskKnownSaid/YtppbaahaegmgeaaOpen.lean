/- What is known of an argument that came in: slices of ints, of structs of ints. No program in sight. -/
import Derived.Test.YtppbaahaegmgeaaBase
import Derived.ProofKit
import Derived.Deep.Slices
import Derived.Deep.Fields
import Derived.ChangeSame
import Derived.OpenShut
namespace Go.Proofs.Ytppbaahaegmgeaa
open Go.RowKit Go.ChangeShapes Go.WideShapes Go.Deep

section
variable {H : Type} {enc : TypeId × Value → H} {P : Program} {W : World} {spare : Nat → Bool} {held : Bool} {b0 : Nat} {r : Reach}

theorem wf_i64 {x : Int} (h : (Lit.int .i64 x).wf = true) : -9223372036854775808 ≤ x ∧ x ≤ 9223372036854775807 := by
  simp [Lit.wf, IntKind.min, IntKind.max, IntKind.signed, IntKind.bits] at h
  exact ⟨by omega, by omega⟩

theorem add_at {a : Addr} {n : Nat} {v : Value} {w : World} (h : w.cell? (a.add n) = some v) : w.cell? ⟨a.block, a.off + n, none⟩ = some v := by
  have hs := World.cell?_spot h
  rw [← h]
  unfold Addr.add at hs ⊢
  split
  · rename_i h0
    subst h0
    rw [if_pos rfl] at hs
    rw [Nat.add_zero, ← hs]
  · rfl

theorem spot_at {a : Addr} {v : Value} {w : World} (h : w.cell? (a.add 0) = some v) : a = ⟨a.block, a.off, none⟩ := by
  have hs := World.cell?_spot h
  simp [Addr.add] at hs
  obtain ⟨b, o, s⟩ := a
  simp at hs; subst hs; rfl

theorem open_IntsAt {T E : TypeId} {v : Value} {d : DataW H} {p : List MemPlace} (hT : P.underlying T = some (.slice E)) (hE : P.underlying E = some (.int .i64)) (hc : P.cellsOf E = 1)
    (ok : Value.okWide P W r b0 T v) (h : DataW.Trod enc P W 0 (fun _ => true) held T v d p) :
    ∃ q len cap, v = .slice q len cap ∧ len ≤ maxLen ∧ IntsAt W W.heap.size q len := by
  obtain ⟨a0, len0, cap0, rfl⟩ := okWide_slice hT ok
  obtain ⟨fuel, hf⟩ := h
  rcases open_ints hT hE hc hf with ⟨hcs, _⟩ | ⟨x, l, c, zs, hcs, _, hl, hm, hz, _, hcell, hwz⟩
  · simp [Value.cells] at hcs
    obtain ⟨rfl, rfl, rfl⟩ := hcs
    exact ⟨none, 0, 0, rfl, by simp [maxLen], fun j hj => by omega⟩
  · simp [Value.cells] at hcs
    obtain ⟨rfl, rfl, rfl⟩ := hcs
    refine ⟨some x, _, _, rfl, by omega, fun j hj => ?_⟩
    have hz' : zs.length = cap0 := by simpa using hz
    have h0 := hcell 0 (by omega)
    have hj' := add_at (hcell j (by omega))
    have hs := spot_at h0
    have hw : (Lit.int .i64 (zs.getD j 0)).wf = true := hwz _ (by
      rw [List.getD_eq_getElem?_getD, List.getElem?_eq_getElem (by omega), Option.getD_some]
      exact List.getElem_mem _)
    exact ⟨x.block, x.off, zs.getD j 0, by rw [← hs], lt_of_cell (a := ⟨x.block, x.off + j, none⟩) hj', hj', wf_i64 hw⟩

/-- The type of cell j of a value of type t, the structs and arrays opened to the bottom. -/
def cellTypeAt (P : Program) : Nat → TypeId → Nat → Option TypeId
  | 0, _, _ => none
  | d + 1, t, j =>
    match P.underlying t with
    | some (.struct fs) => (fs.toList.find? fun f => decide (f.offset ≤ j) && decide (j < f.offset + P.cellsOf f.type)).bind fun f => cellTypeAt P d f.type (j - f.offset)
    | some (.array n e) => if j < n * P.cellsOf e then cellTypeAt P d e (j % P.cellsOf e) else none
    | some _ => if j = 0 then some t else none
    | none => none

theorem trod_one {fuel : Nat} {t : TypeId} {cs : List Value} {x : DataW H × List MemPlace} (h : DataW.trod enc P W 0 spare held fuel t cs = some x)
    (h1 : ∀ fs, P.underlying t ≠ some (.struct fs)) (h2 : ∀ n e, P.underlying t ≠ some (.array n e)) : ∃ v, cs = [v] := by
  cases fuel with
  | zero => simp [DataW.trod] at h
  | succ n =>
    unfold DataW.trod at h
    split at h
    all_goals first
      | exact ⟨_, rfl⟩
      | (exfalso; exact h1 _ (by assumption))
      | (exfalso; exact h2 _ _ (by assumption))
      | (cases h)

theorem trod_cell : ∀ (d : Nat) {fuel : Nat} {t : TypeId} {cs : List Value} {x : DataW H × List MemPlace} {j : Nat} {tj : TypeId},
    DataW.trod enc P W 0 spare held fuel t cs = some x → cellTypeAt P d t j = some tj →
    ∃ v y m, cs[j]? = some v ∧ DataW.trod enc P W 0 spare held m tj [v] = some y := by
  intro d
  induction d with
  | zero => intro fuel t cs x j tj _ h; simp [cellTypeAt] at h
  | succ d ih =>
    intro fuel t cs x j tj h hc
    unfold cellTypeAt at hc
    split at hc
    · rename_i fs hs
      obtain ⟨f, hf, hc'⟩ := Option.bind_eq_some_iff.1 hc
      have hp := List.find?_some hf
      simp only [Bool.and_eq_true, decide_eq_true_eq] at hp
      have hm := List.mem_of_find?_eq_some hf
      obtain ⟨i, hi, hfi⟩ := List.getElem_of_mem hm
      obtain ⟨xs, n, _, _, hlen, hxl, hg⟩ := DataW.trod_struct hs h
      have hi' : i < fs.size := by simpa using hi
      have hfi' : fs[i]? = some f := by
        rw [Array.getElem?_eq_getElem hi']
        simpa using hfi
      have hgi := hg i f hfi'
      rw [List.getElem?_eq_getElem (by omega)] at hgi
      obtain ⟨v, y, m, hv, hy⟩ := ih hgi hc'
      refine ⟨v, y, m, ?_, hy⟩
      rw [List.getElem?_take, List.getElem?_drop] at hv
      split at hv
      · rw [show f.offset + (j - f.offset) = j by omega] at hv; exact hv
      · cases hv
    · rename_i n e ha
      split at hc
      · rename_i hj
        obtain ⟨xs, m, _, _, hlen, hxl, hg⟩ := DataW.trod_array ha h
        have hpos : 0 < P.cellsOf e := by
          rcases Nat.eq_zero_or_pos (P.cellsOf e) with h0 | h0
          · rw [h0] at hj; omega
          · exact h0
        have hi : j / P.cellsOf e < n := Nat.div_lt_of_lt_mul (by rw [Nat.mul_comm]; exact hj)
        have hgi := hg _ hi
        rw [List.getElem?_eq_getElem (by omega)] at hgi
        obtain ⟨v, y, m', hv, hy⟩ := ih hgi hc
        refine ⟨v, y, m', ?_, hy⟩
        rw [List.getElem?_take, List.getElem?_drop] at hv
        split at hv
        · have := Nat.div_add_mod j (P.cellsOf e)
          rw [Nat.mul_comm] at this
          rw [this] at hv; exact hv
        · cases hv
      · cases hc
    · rename_i td hs1 hs2 htd
      split at hc
      · rename_i hj
        cases hc
        subst hj
        obtain ⟨v, rfl⟩ := trod_one h (fun fs hh => hs1 fs (by rw [htd] at hh; exact Option.some.inj hh)) (fun n e hh => hs2 n e (by rw [htd] at hh; exact Option.some.inj hh))
        exact ⟨v, x, fuel, rfl, h⟩
      · cases hc
    · cases hc

/-- A slice of whatever elements of k cells, that is only read: of each element, each cell, with its own reading. -/
theorem open_rows {T E : TypeId} {v : Value} {d : DataW H} {p : List MemPlace} {k : Nat} (hT : P.underlying T = some (.slice E)) (hk : P.cellsOf E = k) (hk0 : 0 < k)
    (ok : Value.okWide P W r b0 T v) (h : DataW.Trod enc P W 0 (fun _ => true) held T v d p) :
    ∃ q len cap, v = .slice q len cap ∧ len ≤ maxLen ∧ ∀ i, i < len → ∃ b off, q = some ⟨b, off, none⟩ ∧ b < W.heap.size ∧
      ∀ j tj, j < k → cellTypeAt P 20 E j = some tj → ∃ u y m, W.cell? ⟨b, off + i * k + j, none⟩ = some u ∧ DataW.trod enc P W 0 (fun _ => true) held m tj [u] = some y := by
  obtain ⟨a0, len0, cap0, rfl⟩ := okWide_slice hT ok
  obtain ⟨fuel, hf⟩ := h
  rcases open_slice hT hf with ⟨hcs, _⟩ | ⟨a, len, cap, m, n, D, Pl, hcs, _, hl, hm, hmm, _, hx⟩
  · simp [Value.cells] at hcs
    obtain ⟨rfl, rfl, rfl⟩ := hcs
    exact ⟨none, 0, 0, rfl, by simp [maxLen], fun j hj => by omega⟩
  · simp [Value.cells] at hcs
    obtain ⟨rfl, rfl, rfl⟩ := hcs
    refine ⟨some a, _, _, rfl, by omega, fun i hi => ?_⟩
    simp only [if_true] at hmm
    obtain ⟨cs0, hc0, _⟩ := hx 0 (by omega)
    obtain ⟨_, hcl0, hat0⟩ := World.cells?_some hc0
    have h00 := hat0 0 (by omega)
    rw [List.getElem?_eq_getElem (by omega), add_add] at h00
    have hs := spot_at (a := a) (by simpa using h00)
    have hlt : a.block < W.heap.size := by
      have := add_at h00
      exact lt_of_cell (a := ⟨a.block, _, none⟩) this
    refine ⟨a.block, a.off, by rw [← hs], hlt, fun j tj hj hc => ?_⟩
    obtain ⟨cs, hci, hti⟩ := hx i (by omega)
    obtain ⟨_, hcl, hat⟩ := World.cells?_some hci
    obtain ⟨u, y, m', hu, hy⟩ := trod_cell 20 hti hc
    have hj2 := hat j (by omega)
    rw [hu, add_add, hk] at hj2
    have := add_at hj2
    exact ⟨u, y, m', by rw [Nat.add_assoc]; exact this, hy⟩

theorem open_ints3 {T E I : TypeId} {v : Value} {d : DataW H} {p : List MemPlace} (hT : P.underlying T = some (.slice E)) (hk : P.cellsOf E = 3)
    (c0 : cellTypeAt P 20 E 0 = some I) (c1 : cellTypeAt P 20 E 1 = some I) (c2 : cellTypeAt P 20 E 2 = some I) (hI : P.underlying I = some (.int .i64))
    (ok : Value.okWide P W r b0 T v) (h : DataW.Trod enc P W 0 (fun _ => true) held T v d p) :
    ∃ q len cap, v = .slice q len cap ∧ len ≤ maxLen ∧ Ints3 W W.heap.size q len := by
  obtain ⟨q, len, cap, rfl, hm, hx⟩ := open_rows hT hk (by omega) ok h
  refine ⟨q, len, cap, rfl, hm, fun i hi => ?_⟩
  obtain ⟨b, off, rfl, hb, hc⟩ := hx i hi
  obtain ⟨u0, _, _, e0, t0⟩ := hc 0 I (by omega) c0
  obtain ⟨u1, _, _, e1, t1⟩ := hc 1 I (by omega) c1
  obtain ⟨u2, _, _, e2, t2⟩ := hc 2 I (by omega) c2
  obtain ⟨x0, h0, _, w0⟩ := DataW.trod_int hI t0
  obtain ⟨x1, h1, _, w1⟩ := DataW.trod_int hI t1
  obtain ⟨x2, h2, _, w2⟩ := DataW.trod_int hI t2
  obtain rfl : u0 = .int .i64 x0 := by simpa using h0
  obtain rfl : u1 = .int .i64 x1 := by simpa using h1
  obtain rfl : u2 = .int .i64 x2 := by simpa using h2
  exact ⟨b, off, x0, x1, x2, rfl, hb, e0, e1, e2, wf_i64 w0, wf_i64 w1, wf_i64 w2⟩
end

end Go.Proofs.Ytppbaahaegmgeaa
