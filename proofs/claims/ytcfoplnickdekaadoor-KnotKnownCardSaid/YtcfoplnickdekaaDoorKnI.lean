/- Bytes that came in (as RdB, RdI have them). -/
import Derived.Test.YtcfoplnickdekaaDoorOpen
import Derived.Test.YtcfoplnickdekaaDoorByt
namespace Go.Proofs.YtcfoplnickdekaaDoor
open Go.RowKit Go.ChangeShapes Go.WideShapes Go.Deep

def BytesAt (w : World) (v : Value) (xs : List Int) : Prop :=
  (∀ x ∈ xs, 0 ≤ x ∧ x ≤ 255) ∧ ((v = .slice none 0 0 ∧ xs = []) ∨ ∃ a c, v = .slice (some a) xs.length c ∧ ∀ i, i < xs.length → w.cell? (a.add i) = some (.int .u8 (xs.getD i 0)))

theorem add_block (a : Addr) (n : Nat) : (a.add n).block = a.block := by unfold Addr.add; split <;> rfl

/-- A slice of bytes at whatever level of an argument. -/
theorem trod_bytes {H : Type} {enc : TypeId × Value → H} {P : Program} {W : World} {held : Bool} {T E : TypeId} {m : Nat} {u : Value} {y : DataW H × List MemPlace} (hT : P.underlying T = some (.slice E)) (hE : P.underlying E = some (.int .u8)) (hc : P.cellsOf E = 1)
    (h : DataW.trod enc P W 0 (fun _ => true) held m T [u] = some y) :
    ∃ xs : List Int, BytesAt W u xs ∧ xs.length ≤ maxLen ∧ ∃ p c, u = .slice p xs.length c ∧ xs.length ≤ c := by
  rcases open_ints hT hE hc h with ⟨hcs, _⟩ | ⟨x, l, c, zs, hcs, _, hl, hm, hz, _, hcell, hwz⟩
  · simp at hcs
    subst hcs
    exact ⟨[], ⟨by simp, .inl ⟨rfl, rfl⟩⟩, by simp, none, 0, rfl, by simp⟩
  · simp at hcs
    subst hcs
    have hz' : zs.length = c := by simpa using hz
    have hlen : (zs.take l).length = l := by rw [List.length_take, Nat.min_eq_left (by omega)]
    refine ⟨zs.take l, ⟨fun x hx => ?_, .inr ⟨x, c, by rw [hlen], fun i hi => ?_⟩⟩, by rw [hlen]; omega, some x, c, by rw [hlen], by rw [hlen]; omega⟩
    · have := hwz x (List.mem_of_mem_take hx)
      simp [Lit.wf, IntKind.min, IntKind.max, IntKind.signed, IntKind.bits] at this
      omega
    · rw [List.length_take] at hi
      rw [hcell i (by omega)]
      rw [List.getD_eq_getElem?_getD, List.getD_eq_getElem?_getD, List.getElem?_take, if_pos (by omega)]

theorem open_bytes {H : Type} {enc : TypeId × Value → H} {P : Program} {W : World} {held : Bool} {r : Reach} {b0 : Nat} {T E : TypeId} {v : Value} {d : DataW H} {p : List MemPlace} (hT : P.underlying T = some (.slice E)) (hE : P.underlying E = some (.int .u8)) (hc : P.cellsOf E = 1)
    (ok : Value.okWide P W r b0 T v) (h : DataW.Trod enc P W 0 (fun _ => true) held T v d p) :
    ∃ xs : List Int, BytesAt W v xs ∧ xs.length ≤ maxLen ∧ ∃ p c, v = .slice p xs.length c ∧ xs.length ≤ c := by
  obtain ⟨a0, len0, cap0, rfl⟩ := okWide_slice hT ok
  obtain ⟨fuel, hf⟩ := h
  exact trod_bytes hT hE hc (by simpa [Value.cells] using hf)

theorem BytesAt.form {w : World} {v : Value} {xs : List Int} (h : BytesAt w v xs) : ∃ p c, v = .slice p xs.length c := by
  rcases h.2 with ⟨h1, h2⟩ | ⟨a, c, h1, _⟩
  · exact ⟨none, 0, by rw [h1, h2]; rfl⟩
  · exact ⟨some a, c, h1⟩

theorem BytesAt.spot {w : World} {p : Option Addr} {n c : Nat} {xs : List Int} (h : BytesAt w (.slice p n c) xs) (h0 : 0 < xs.length) : ∃ b o, p = some ⟨b, o, none⟩ ∧ b < w.heap.size ∧ ∀ i x, xs[i]? = some x → w.cell? ⟨b, o + i, none⟩ = some (.int .u8 x) := by
  rcases h.2 with ⟨h1, h2⟩ | ⟨a, c', h1, h2⟩
  · subst h2; simp at h0
  · simp at h1
    obtain ⟨rfl, _, rfl⟩ := h1
    have ha := spot_at (h2 0 h0)
    have hl := lt_of_cell (h2 0 h0)
    rw [add_block] at hl
    refine ⟨a.block, a.off, by rw [← ha], hl, fun i x hi => ?_⟩
    have hi' : i < xs.length := (List.getElem?_eq_some_iff.1 hi).1
    have := add_at (h2 i hi')
    rw [this, List.getD_eq_getElem?_getD, hi]; rfl

end Go.Proofs.YtcfoplnickdekaaDoor
