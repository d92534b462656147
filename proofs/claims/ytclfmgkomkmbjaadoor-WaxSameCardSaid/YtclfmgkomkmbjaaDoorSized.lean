/- What the form's own reach says of a slice that came in; a list out of facts of each index. No program in sight. -/
import Derived.Test.YtclfmgkomkmbjaaDoorOpen
import Derived.SizedLaws
namespace Go.Proofs.YtclfmgkomkmbjaaDoor
open Go.RowKit Go.ChangeShapes Go.WideShapes Go.Deep

theorem list_of_each {α : Type} {Q : Nat → α → Prop} (n : Nat) (h : ∀ i, i < n → ∃ x, Q i x) : ∃ l : List α, l.length = n ∧ ∀ i x, l[i]? = some x → Q i x := by
  induction n with
  | zero => exact ⟨[], rfl, fun i x hx => by simp at hx⟩
  | succ n ih =>
    obtain ⟨l, hl, hq⟩ := ih (fun i hi => h i (by omega))
    obtain ⟨y, hy⟩ := h n (by omega)
    refine ⟨l ++ [y], by simp [hl], fun i x hx => ?_⟩
    by_cases e : i < l.length
    · rw [List.getElem?_append_left e] at hx
      exact hq i x hx
    · have hi : i < (l ++ [y]).length := (List.getElem?_eq_some_iff.1 hx).1
      simp at hi
      have : i = l.length := by omega
      subst this
      rw [List.getElem?_append_right (by omega)] at hx
      simp at hx
      subst hx
      rw [hl]; exact hy

section
variable {H : Type} {enc : TypeId × Value → H} {P : Program} {W : World} {held : Bool}

theorem slice_sized {ts : List TypeId} {ds : List (DataW H)} {j : Nat} {T E : TypeId} {q : Option Addr} {len cap : Nat} {d : DataW H} {p : List MemPlace} {b : Nat}
    (hT : P.underlying T = some (.slice E)) (ht : ts[j]? = some T) (hd : ds[j]? = some d) (hb : P.bytesOf E = b)
    (h : DataW.Trod enc P W 0 (fun _ => true) held T (.slice q len cap) d p) (hsz : (DataW.weightsEach P ts ds).all (· ≤ reachBytes) = true) :
    len * b ≤ 140737488351232 := by
  obtain ⟨fuel, hf⟩ := h
  rcases open_slice hT hf with ⟨hcs, _⟩ | ⟨a, l, c, m, n, D, Pl, hcs, _, hl, hm, hmm, hx, _⟩
  · simp [Value.cells] at hcs
    obtain ⟨rfl, rfl, rfl⟩ := hcs
    omega
  · simp [Value.cells] at hcs
    obtain ⟨rfl, rfl, rfl⟩ := hcs
    simp only [Prod.mk.injEq] at hx
    have hd' := hd
    rw [hx.1] at hd'
    have := sized_slice hsz ht hd' hT
    simp only [List.length_map, List.length_range, reachBytes, hb] at this
    have h1 : len * b ≤ (len + (m - len)) * b := Nat.mul_le_mul_right _ (by omega)
    omega
end

end Go.Proofs.YtclfmgkomkmbjaaDoor
