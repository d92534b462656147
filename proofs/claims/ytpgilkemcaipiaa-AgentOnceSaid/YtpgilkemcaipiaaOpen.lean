/- What is known of an argument that came in: slices of ints, of structs of ints. No program in sight. -/
import Derived.Test.YtpgilkemcaipiaaBase
import Derived.ProofKit
import Derived.Deep.Slices
import Derived.Deep.Fields
import Derived.ChangeSame
namespace Go.Proofs.Ytpgilkemcaipiaa
open Go.RowKit Go.ChangeShapes Go.WideShapes Go.Deep

section
variable {H : Type} {enc : TypeId × Value → H} {P : Program} {W : World} {spare : Nat → Bool} {held : Bool} {b0 : Nat} {r : Reach}

theorem wf_i64 {x : Int} (h : (Lit.int .i64 x).wf = true) : -9223372036854775808 ≤ x ∧ x ≤ 9223372036854775807 := by
  simp [Lit.wf, IntKind.min, IntKind.max, IntKind.signed, IntKind.bits] at h
  exact ⟨by omega, by omega⟩

theorem add_at {a : Addr} {n : Nat} {v : Value} {w : World} (h : w.cell? (a.add n) = some v) : w.cell? ⟨a.block, a.off + n, none⟩ = some v := by
  have hs := World.cell?_spot h
  rw [← h]
  unfold Addr.add at hs ⊢
  split
  · rename_i h0
    subst h0
    rw [if_pos rfl] at hs
    rw [Nat.add_zero, ← hs]
  · rfl

theorem spot_at {a : Addr} {v : Value} {w : World} (h : w.cell? (a.add 0) = some v) : a = ⟨a.block, a.off, none⟩ := by
  have hs := World.cell?_spot h
  simp [Addr.add] at hs
  obtain ⟨b, o, s⟩ := a
  simp at hs; subst hs; rfl

theorem open_IntsAt {T E : TypeId} {v : Value} {d : DataW H} {p : List MemPlace} (hT : P.underlying T = some (.slice E)) (hE : P.underlying E = some (.int .i64)) (hc : P.cellsOf E = 1)
    (ok : Value.okWide P W r b0 T v) (h : DataW.Trod enc P W 0 (fun _ => true) held T v d p) :
    ∃ q len cap, v = .slice q len cap ∧ len ≤ maxLen ∧ IntsAt W W.heap.size q len := by
  obtain ⟨a0, len0, cap0, rfl⟩ := okWide_slice hT ok
  obtain ⟨fuel, hf⟩ := h
  rcases open_ints hT hE hc hf with ⟨hcs, _⟩ | ⟨x, l, c, zs, hcs, _, hl, hm, hz, _, hcell, hwz⟩
  · simp [Value.cells] at hcs
    obtain ⟨rfl, rfl, rfl⟩ := hcs
    exact ⟨none, 0, 0, rfl, by simp [maxLen], fun j hj => by omega⟩
  · simp [Value.cells] at hcs
    obtain ⟨rfl, rfl, rfl⟩ := hcs
    refine ⟨some x, _, _, rfl, by omega, fun j hj => ?_⟩
    have hz' : zs.length = cap0 := by simpa using hz
    have h0 := hcell 0 (by omega)
    have hj' := add_at (hcell j (by omega))
    have hs := spot_at h0
    have hw : (Lit.int .i64 (zs.getD j 0)).wf = true := hwz _ (by
      rw [List.getD_eq_getElem?_getD, List.getElem?_eq_getElem (by omega), Option.getD_some]
      exact List.getElem_mem _)
    exact ⟨x.block, x.off, zs.getD j 0, by rw [← hs], lt_of_cell (a := ⟨x.block, x.off + j, none⟩) hj', hj', wf_i64 hw⟩
end

end Go.Proofs.Ytpgilkemcaipiaa
