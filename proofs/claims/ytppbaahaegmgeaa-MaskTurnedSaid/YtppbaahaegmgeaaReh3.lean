/- As Reh, where the first operations change nothing that is known; what their values have may be whatever stands while memory grows. No program in sight. -/
import Derived.Test.YtppbaahaegmgeaaReh
import Derived.Test.YtppbaahaegmgeaaReg3
namespace Go.Proofs.Ytppbaahaegmgeaa
open Go

variable {P : Program} {ops : Array Oper} {Q : Exit → Act → World → Prop}

theorem wp_region_head3 {id : Nat} (m : Nat) (specs : List Spec3) {a0 : Act} {w0 : World} {n : Nat} (hm : P.follows .mixedOrders = true) (hok : regOk ops n = true) (htl : tailOk ops m = true) (hn : a0.tmps.size = n)
    (hstep : ∀ i o, i < m → ops[i]? = some o → ∀ a w, Upd [] w0 w → (∀ t v, notDstTo ops m t = true → a0.tmps[t]? = some v → a.tmps[t]? = some v) → (∀ j, j ∈ needsOf o → ∀ t, dstOf ops j = some t → (specs.getD j (.s .any)).holds (at_ a t) w) →
      ∀ K' : Act → World → Prop, (∀ v w', (specs.getD i (.s .any)).holds v w' → Upd [] w w' → K' (a.put o.dst v) w') → if Region.wanted o (yielded ops a.tmps) = true then Oper.wp P o a w K' Q else K' (a.put o.dst undef) w)
    (hfin : ∀ a w, Upd [] w0 w → a.tmps.size = n → a.defers = a0.defers → (∀ t v, notDstTo ops m t = true → a0.tmps[t]? = some v → a.tmps[t]? = some v) → (∀ j t, j < m → dstOf ops j = some t → (specs.getD j (.s .any)).holds (at_ a t) w) → wpList P ops Q (ops.toList.drop m) a w) :
    (Code.region id ops true).wp P Q a0 w0 := by
  have hms : m < ops.size := by
    unfold tailOk at htl
    simp only [Bool.and_eq_true, decide_eq_true_eq] at htl
    exact htl.1.1
  have heff : ∀ i, effOf ([] : List (Nat × Eff)) i = effOf [] 0 := fun i => rfl
  refine wp_region_any hm ?_
  have := wpAny_reh (P := P) (Q := Q) (D := fun _ => false) (S := Upd [] w0) (R := fun i => (specs.getD i (.s .any)).holds) (E := []) (a0 := a0) hok htl hn ?_ ?_ (fun i k w w' _ _ _ _ => ⟨fun h => h, fun h => h⟩) ?_ ?_ m (List.range m) (Array.replicate ops.size false) a0 w0.drew (by simp) (by simp) List.nodup_range (fun i => by
    rw [List.mem_range]
    constructor
    · intro h; exact ⟨h, by simp [Array.getD]; omega⟩
    · exact fun h => h.1) ⟨(Upd.refl _ w0).drew, rfl, rfl, fun _ _ => rfl, fun i t _ hd hi => by
      exfalso
      by_cases h : i < ops.size <;> simp [Array.getD, h] at hi, fun i _ hi => by
      exfalso
      by_cases h : i < ops.size <;> simp [Array.getD, h] at hi, fun i _ => trivial, fun i o e ho hi he hb => by
      exfalso
      by_cases h : i < ops.size <;> simp [Array.getD, h] at hi, fun i _ => by
      by_cases h : i < ops.size <;> simp [Array.getD, h], fun i j t u _ _ _ _ _ _ _ hi _ => by
      exfalso
      by_cases h : i < ops.size <;> simp [Array.getD, h] at hi⟩
  · rw [show m + (ops.size - m) = ops.size by omega] at this
    exact this
  · intro i k v w w' _ hv _ _ hU
    exact Spec3.holds_upd hv hU
  · intro i v w hd _
    cases hd
  · intro i o him ho a w hS hold hneed hun
    refine wpOp_step ho (fun K' hK => hstep i o him ho a w hS (fun t v ht hv => (hold t (notDstTo_spec ht)).trans hv) (fun j hj => ?_) K' (fun v w' hv hu => ?_))
    · unfold needsOf at hj
      rw [List.mem_filterMap] at hj
      obtain ⟨e, he, hif⟩ := hj
      split at hif
      · rename_i hb
        simp only [Option.some.injEq] at hif
        subst hif
        exact (hneed e (by simpa using he) hb).2
      · cases hif
    · refine hK _ _ ⟨v, ?_, hv, fun hd => ?_, trivial, hS.trans_nil hu, hu⟩
      · unfold dstOf; rw [ho]; rfl
      · cases hd
  · intro a w hS hdf hsz hold hvals _ _
    exact hfin a w hS (hsz.trans hn) hdf (fun t v ht hv => (hold t (notDstTo_spec ht)).trans hv) hvals

end Go.Proofs.Ytppbaahaegmgeaa
