/- As Reg, for regions whose last operations yield into slots that earlier ones read: a slot stands while each operation that yields into it still waits. No program in sight. -/
import Derived.Test.YtclfmgkomkmbjaaDoorReg
namespace Go.Proofs.YtclfmgkomkmbjaaDoor
open Go

variable {P : Program} {ops : Array Oper} {Q : Exit → Act → World → Prop}

/-- Operation k waits for operation i, at once. -/
def waitsAt (ops : Array Oper) (k i : Nat) : Bool := match ops[k]? with
  | some o => o.after.any fun e => Region.binds .any e && e.on == i
  | none => false
/-- Slot t: each operation that yields into it waits for i. -/
def stillAt (ops : Array Oper) (i t : Nat) : Bool := (List.range ops.size).all fun k => dstOf ops k != some t || waitsAt ops k i

structure RegInv2 (ops : Array Oper) (S : World → Prop) (R : Nat → Value → World → Prop) (a0 : Act) (listed : Array Bool) (a : Act) (w : World) : Prop where
  world : S w
  defers : a.defers = a0.defers
  size : a.tmps.size = a0.tmps.size
  old : ∀ t, (∀ k, dstOf ops k = some t → listed.getD k true = false) → a.tmps[t]? = a0.tmps[t]?
  vals : ∀ i t, dstOf ops i = some t → listed.getD i false = true → R i (at_ a t) w
  closed : ∀ k i, waitsAt ops k i = true → listed.getD i true = false → listed.getD k true = false

theorem dst_lt {i t : Nat} (hd : dstOf ops i = some t) : i < ops.size := by
  unfold dstOf at hd
  rcases Nat.lt_or_ge i ops.size with h | h
  · exact h
  · rw [Array.getElem?_eq_none h] at hd; cases hd
theorem stillAt_spec {i t : Nat} (h : stillAt ops i t = true) : ∀ k, dstOf ops k = some t → waitsAt ops k i = true := by
  intro k hk
  unfold stillAt at h
  rw [List.all_eq_true] at h
  have := h k (List.mem_range.2 (dst_lt hk))
  rw [hk] at this
  simpa using this
theorem waitsAt_spec {k i : Nat} (h : waitsAt ops k i = true) : ∃ o, ops[k]? = some o ∧ ∃ e ∈ o.after, Region.binds .any e = true ∧ e.on = i := by
  unfold waitsAt at h
  split at h
  · rename_i o ho
    rw [Array.any_eq_true] at h
    obtain ⟨j, hj, he⟩ := h
    simp only [Bool.and_eq_true, beq_iff_eq] at he
    exact ⟨o, ho, o.after[j], Array.getElem_mem hj, he.1, he.2⟩
  · cases h

theorem wpAny_inv2 {S : World → Prop} {R : Nat → Value → World → Prop} {a0 : Act} {n : Nat} (hok : regOk ops n = true) (hn : a0.tmps.size = n)
    (hR : ∀ i v w w', R i v w → S w → S w' → Upd [] w w' → R i v w')
    (hstep : ∀ i o, ops[i]? = some o → ∀ a w, S w → (∀ t, stillAt ops i t = true → a.tmps[t]? = a0.tmps[t]?) → (∀ e ∈ o.after, Region.binds .any e = true → ∀ t, dstOf ops e.on = some t → R e.on (at_ a t) w) → StepOk P ops Q S R i a w)
    (hfin : ∀ a w, S w → a.defers = a0.defers → a.tmps.size = a0.tmps.size → (∀ t, (∀ i, dstOf ops i ≠ some t) → a.tmps[t]? = a0.tmps[t]?) → (∀ i t, dstOf ops i = some t → R i (at_ a t) w) → Q .normal a w) :
    ∀ (fuel : Nat) (l : List Nat) (listed : Array Bool) (a : Act) (w : World), listed.size = ops.size → l.length ≤ fuel → (∀ i, listed.getD i true = false → i ∈ l) → RegInv2 ops S R a0 listed a w → wpAny P .any ops Q fuel listed a w := by
  have fin : ∀ (listed : Array Bool) (a : Act) (w : World), listed.size = ops.size → RegInv2 ops S R a0 listed a w → Region.ready .any ops listed = [] → Q .normal a w := by
    intro listed a w hls hI hr
    have hall : ∀ i, i < ops.size → listed.getD i true = true := by
      intro i
      induction i using Nat.strongRecOn with
      | ind i ih =>
        intro hi
        by_cases hl : listed.getD i true = true
        · exact hl
        · exfalso
          have hl' : listed.getD i true = false := by simpa using hl
          have ho : ops[i]? = some ops[i] := Array.getElem?_eq_getElem hi
          have : i ∈ Region.ready .any ops listed := mem_ready.2 ⟨hl', ops[i], ho, fun e he hb => by
            have hlt := regOk_after hok ho he hb
            have h2 := ih e.on hlt (by omega)
            have hes : e.on < listed.size := by omega
            simp only [Array.getD, hes, dif_pos] at h2 ⊢
            exact h2⟩
          rw [hr] at this
          cases this
    refine hfin a w hI.world hI.defers hI.size (fun t ht => hI.old t (fun k hk => absurd hk (ht k))) (fun i t hd => hI.vals i t hd ?_)
    have hi := dst_lt hd
    have h2 := hall i hi
    have hes : i < listed.size := by omega
    simp only [Array.getD, hes, dif_pos] at h2 ⊢
    exact h2
  intro fuel
  induction fuel with
  | zero =>
    intro l listed a w hls hll hl hI
    have hr : Region.ready .any ops listed = [] := by
      apply List.eq_nil_iff_forall_not_mem.2
      intro i hi
      have := hl i (mem_ready.1 hi).1
      have : l = [] := List.eq_nil_of_length_eq_zero (by omega)
      subst this
      simp_all
    exact ⟨hr, fin listed a w hls hI hr⟩
  | succ fuel ih =>
    intro l listed a w hls hll hl hI
    refine ⟨fin listed a w hls hI, fun i hi => ?_⟩
    obtain ⟨hun, o, ho, haf⟩ := mem_ready.1 hi
    have hil : i ∈ l := hl i hun
    have hisz : i < listed.size := by
      have := (Array.getElem?_eq_some_iff.1 ho).1
      omega
    have getne : ∀ j (d : Bool), j ≠ i → (listed.setIfInBounds i true).getD j d = listed.getD j d := fun j d hji => by
      by_cases hjs : j < listed.size
      · simp only [Array.getD, Array.size_setIfInBounds, hjs, dif_pos]
        rw [Array.getInternal_eq_getElem, Array.getElem_setIfInBounds_ne _ (Ne.symm hji), Array.getInternal_eq_getElem]
      · simp only [Array.getD, Array.size_setIfInBounds, hjs, dif_neg, not_false_eq_true]
    have geti : ∀ d : Bool, (listed.setIfInBounds i true).getD i d = true := fun d => by simp [Array.getD, hisz]
    refine wpOp_mono ?_ (hstep i o ho a w hI.world (fun t ht => hI.old t (fun k hk => hI.closed k i (stillAt_spec ht k hk) hun)) (fun e he hb t hd => hI.vals e.on t hd (haf e he hb)))
    rintro a' w' ⟨v, rfl, hRv, hSw, hU⟩
    refine ih (l.erase i) _ _ _ (by simpa using hls) (by rw [List.length_erase_of_mem hil]; omega) (fun j hj => ?_) ⟨hSw, (defers_put _ _ _).trans hI.defers, (size_put _ _ _).trans hI.size, fun t ht => ?_, fun j t hd hj => ?_, fun k j hk hj => ?_⟩
    · have hji : j ≠ i := fun e => by
        subst e
        rw [geti] at hj; cases hj
      rw [getne j _ hji] at hj
      exact (List.mem_erase_of_ne hji).2 (hl j hj)
    · have hne : dstOf ops i ≠ some t := fun h => by
        have := ht i h
        rw [geti] at this; cases this
      refine (get_put_ne _ _ _ _ hne).trans (hI.old t (fun k hk => ?_))
      have hki : k ≠ i := fun e => hne (by rw [← e]; exact hk)
      have := ht k hk
      rwa [getne k _ hki] at this
    · by_cases hji : j = i
      · subst hji
        rw [hd, at_put_same _ _ _ (by rw [hI.size, hn]; exact regOk_lt hok hd)]
        exact hRv
      · have hne : dstOf ops i ≠ some t := fun h => hji (regOk_ne hok hd h)
        rw [at_put_ne _ _ _ _ hne]
        rw [getne j _ hji] at hj
        exact hR _ _ _ _ (hI.vals j t hd hj) hI.world hSw hU
    · have hji : j ≠ i := fun e => by
        subst e
        rw [geti] at hj; cases hj
      rw [getne j _ hji] at hj
      have h1 := hI.closed k j hk hj
      have hki : k ≠ i := fun e => by
        subst e
        obtain ⟨o', ho', e', he', hb, hon⟩ := waitsAt_spec hk
        rw [ho] at ho'
        cases ho'
        have h2 := haf e' he' hb
        rw [hon] at h2
        by_cases hjs : j < listed.size
        · simp only [Array.getD, hjs, dif_pos] at hj h2
          rw [hj] at h2; cases h2
        · simp only [Array.getD, hjs, dif_neg, not_false_eq_true] at hj
          cases hj
      rw [getne k _ hki]
      exact h1

/-- The region, by specs. -/
theorem wp_region_spec2 {id : Nat} (specs : List Spec) {a0 : Act} {w0 : World} {n : Nat} (hm : P.follows .mixedOrders = true) (hok : regOk ops n = true) (hn : a0.tmps.size = n)
    (hstep : ∀ i o, ops[i]? = some o → ∀ a w, Upd [] w0 w → (∀ t v, stillAt ops i t = true → a0.tmps[t]? = some v → a.tmps[t]? = some v) → (∀ j, j ∈ needsOf o → ∀ t, dstOf ops j = some t → (specs.getD j .any).holds (at_ a t) w) →
      ∀ K' : Act → World → Prop, (∀ v w', (specs.getD i .any).holds v w' → Upd [] w w' → K' (a.put o.dst v) w') → if Region.wanted o (yielded ops a.tmps) = true then Oper.wp P o a w K' Q else K' (a.put o.dst undef) w)
    (hfin : ∀ a w, Upd [] w0 w → a.tmps.size = n → a.defers = a0.defers → (∀ t v, notDst ops t = true → a0.tmps[t]? = some v → a.tmps[t]? = some v) → (∀ j t, dstOf ops j = some t → (specs.getD j .any).holds (at_ a t) w) → Q .normal a w) :
    (Code.region id ops true).wp P Q a0 w0 := by
  refine wp_region_any hm (wpAny_inv2 (S := Upd [] w0) (R := fun i => (specs.getD i .any).holds) hok hn (fun i v w w' h _ _ u => Spec.holds_upd h u) ?_ ?_ ops.size (List.range ops.size) _ _ _ (by simp) (by simp) (fun i hi => ?_) ⟨(Upd.refl [] w0).drew, rfl, rfl, fun _ _ => rfl, fun i t hd hi => ?_, fun k i hk hi => ?_⟩)
  · intro i o ho a w hS hold hneed
    refine wpOp_step ho (fun K' hK => hstep i o ho a w hS (fun t v ht hv => (hold t ht).trans hv) (fun j hj t hd => ?_) K' (fun v w' hv hu => ?_))
    · unfold needsOf at hj
      rw [List.mem_filterMap] at hj
      obtain ⟨e, he, hif⟩ := hj
      split at hif
      · rename_i hb
        simp only [Option.some.injEq] at hif
        subst hif
        exact hneed e (by simpa using he) hb t hd
      · cases hif
    · refine hK _ _ ⟨v, ?_, hv, hS.trans_nil hu, hu⟩
      unfold dstOf; rw [ho]; rfl
  · intro a w hS hdf hsz hold hvals
    exact hfin a w hS (hsz.trans hn) hdf (fun t v ht hv => (hold t (notDst_spec ht)).trans hv) hvals
  · by_cases h : i < ops.size
    · exact List.mem_range.2 h
    · simp [Array.getD, h] at hi
  · exfalso
    by_cases h : i < ops.size <;> simp [Array.getD, h] at hi
  · obtain ⟨o, ho, _⟩ := waitsAt_spec hk
    have hks := (Array.getElem?_eq_some_iff.1 ho).1
    simp [Array.getD, hks]

end Go.Proofs.YtclfmgkomkmbjaaDoor
