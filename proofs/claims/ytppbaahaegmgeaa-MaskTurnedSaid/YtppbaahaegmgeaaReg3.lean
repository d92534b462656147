/- As Reg, for a region one of whose operations grows a row of the region's own, perhaps in place. No program in sight. -/
import Derived.Test.YtppbaahaegmgeaaReg
namespace Go.Proofs.Ytppbaahaegmgeaa
open Go

variable {P : Program} {ops : Array Oper} {Q : Exit → Act → World → Prop}

/-- One operation's step: what it yields has R. -/
def StepOkU (P : Program) (ops : Array Oper) (Q : Exit → Act → World → Prop) (S : World → Prop) (R : Nat → Value → World → Prop) (U : Nat → World → World → Prop) (i : Nat) (a : Act) (w : World) : Prop :=
  wpOp P ops Q i (fun a' w' => ∃ v, a' = a.put (dstOf ops i) v ∧ R i v w' ∧ S w' ∧ U i w w') a w

theorem wpAny_invU {S : World → Prop} {R : Nat → Value → World → Prop} {U : Nat → World → World → Prop} {a0 : Act} {n : Nat} (hok : regOk ops n = true) (hn : a0.tmps.size = n)
    (hR : ∀ i k v w w', k ≠ i → R k v w → S w → S w' → U i w w' → R k v w')
    (hstep : ∀ i o, ops[i]? = some o → ∀ a w, S w → (∀ t, (∀ i, dstOf ops i ≠ some t) → a.tmps[t]? = a0.tmps[t]?) → (∀ e ∈ o.after, Region.binds .any e = true → ∀ t, dstOf ops e.on = some t → R e.on (at_ a t) w) → StepOkU P ops Q S R U i a w)
    (hfin : ∀ a w, S w → a.defers = a0.defers → a.tmps.size = a0.tmps.size → (∀ t, (∀ i, dstOf ops i ≠ some t) → a.tmps[t]? = a0.tmps[t]?) → (∀ i t, dstOf ops i = some t → R i (at_ a t) w) → Q .normal a w) :
    ∀ (fuel : Nat) (l : List Nat) (listed : Array Bool) (a : Act) (w : World), listed.size = ops.size → l.length ≤ fuel → (∀ i, listed.getD i true = false → i ∈ l) → RegInv ops S R a0 listed a w → wpAny P .any ops Q fuel listed a w := by
  have fin : ∀ (listed : Array Bool) (a : Act) (w : World), listed.size = ops.size → RegInv ops S R a0 listed a w → Region.ready .any ops listed = [] → Q .normal a w := by
    intro listed a w hls hI hr
    have hall : ∀ i, i < ops.size → listed.getD i true = true := by
      intro i
      induction i using Nat.strongRecOn with
      | ind i ih =>
        intro hi
        by_cases hl : listed.getD i true = true
        · exact hl
        · exfalso
          have hl' : listed.getD i true = false := by simpa using hl
          have ho : ops[i]? = some ops[i] := Array.getElem?_eq_getElem hi
          have : i ∈ Region.ready .any ops listed := mem_ready.2 ⟨hl', ops[i], ho, fun e he hb => by
            have hlt := regOk_after hok ho he hb
            have h2 := ih e.on hlt (by omega)
            have hes : e.on < listed.size := by omega
            simp only [Array.getD, hes, dif_pos] at h2 ⊢
            exact h2⟩
          rw [hr] at this
          cases this
    refine hfin a w hI.world hI.defers hI.size hI.old (fun i t hd => hI.vals i t hd ?_)
    have hi : i < ops.size := by
      unfold dstOf at hd
      rcases Nat.lt_or_ge i ops.size with h | h
      · exact h
      · rw [Array.getElem?_eq_none h] at hd; cases hd
    have h2 := hall i hi
    have hes : i < listed.size := by omega
    simp only [Array.getD, hes, dif_pos] at h2 ⊢
    exact h2
  intro fuel
  induction fuel with
  | zero =>
    intro l listed a w hls hll hl hI
    have hr : Region.ready .any ops listed = [] := by
      apply List.eq_nil_iff_forall_not_mem.2
      intro i hi
      have := hl i (mem_ready.1 hi).1
      have : l = [] := List.eq_nil_of_length_eq_zero (by omega)
      subst this
      simp_all
    exact ⟨hr, fin listed a w hls hI hr⟩
  | succ fuel ih =>
    intro l listed a w hls hll hl hI
    refine ⟨fin listed a w hls hI, fun i hi => ?_⟩
    obtain ⟨hun, o, ho, haf⟩ := mem_ready.1 hi
    have hil : i ∈ l := hl i hun
    have hisz : i < listed.size := by
      have := (Array.getElem?_eq_some_iff.1 ho).1
      omega
    refine wpOp_mono ?_ (hstep i o ho a w hI.world hI.old (fun e he hb t hd => hI.vals e.on t hd (haf e he hb)))
    rintro a' w' ⟨v, rfl, hRv, hSw, hU⟩
    refine ih (l.erase i) _ _ _ (by simpa using hls) (by rw [List.length_erase_of_mem hil]; omega) (fun j hj => ?_) ⟨hSw, (defers_put _ _ _).trans hI.defers, (size_put _ _ _).trans hI.size, fun t ht => (get_put_ne _ _ _ _ (ht i)).trans (hI.old t ht), fun j t hd hj => ?_⟩
    · have hji : j ≠ i := fun e => by
        subst e
        simp [Array.getD, hisz] at hj
      refine (List.mem_erase_of_ne hji).2 (hl j ?_)
      by_cases hjs : j < listed.size
      · simp only [Array.getD, Array.size_setIfInBounds, hjs, dif_pos] at hj ⊢
        rw [Array.getInternal_eq_getElem, Array.getElem_setIfInBounds_ne _ (Ne.symm hji)] at hj
        exact hj
      · simp only [Array.getD, Array.size_setIfInBounds, hjs, dif_neg, not_false_eq_true] at hj
        cases hj
    · by_cases hji : j = i
      · subst hji
        rw [hd, at_put_same _ _ _ (by rw [hI.size, hn]; exact regOk_lt hok hd)]
        exact hRv
      · have hne : dstOf ops i ≠ some t := fun h => hji (regOk_ne hok hd h)
        rw [at_put_ne _ _ _ _ hne]
        refine hR i j _ _ _ hji (hI.vals j t hd ?_) hI.world hSw hU
        by_cases hjs : j < listed.size
        · simp only [Array.getD, Array.size_setIfInBounds, hjs, dif_pos] at hj ⊢
          rw [Array.getInternal_eq_getElem, Array.getElem_setIfInBounds_ne _ (Ne.symm hji)] at hj
          exact hj
        · simp only [Array.getD, Array.size_setIfInBounds, hjs, dif_neg, not_false_eq_true] at hj
          cases hj

/-- The region. -/
theorem wp_region_invU {id : Nat} (S : World → Prop) (R : Nat → Value → World → Prop) (U : Nat → World → World → Prop) {a0 : Act} {w0 : World} {n : Nat} (hm : P.follows .mixedOrders = true) (hok : regOk ops n = true) (hn : a0.tmps.size = n) (hS : S w0.drew)
    (hR : ∀ i k v w w', k ≠ i → R k v w → S w → S w' → U i w w' → R k v w')
    (hstep : ∀ i o, ops[i]? = some o → ∀ a w, S w → (∀ t, (∀ i, dstOf ops i ≠ some t) → a.tmps[t]? = a0.tmps[t]?) → (∀ e ∈ o.after, Region.binds .any e = true → ∀ t, dstOf ops e.on = some t → R e.on (at_ a t) w) → StepOkU P ops Q S R U i a w)
    (hfin : ∀ a w, S w → a.defers = a0.defers → a.tmps.size = a0.tmps.size → (∀ t, (∀ i, dstOf ops i ≠ some t) → a.tmps[t]? = a0.tmps[t]?) → (∀ i t, dstOf ops i = some t → R i (at_ a t) w) → Q .normal a w) :
    (Code.region id ops true).wp P Q a0 w0 :=
  wp_region_any hm (wpAny_invU hok hn hR hstep hfin ops.size (List.range ops.size) _ _ _ (by simp) (by simp) (fun i hi => by
    by_cases h : i < ops.size
    · exact List.mem_range.2 h
    · simp [Array.getD, h] at hi) ⟨hS, rfl, rfl, fun _ _ => rfl, fun i t hd hi => by
      exfalso
      by_cases h : i < ops.size <;> simp [Array.getD, h] at hi⟩)

/-- As Spec; or: it is a row of the region's own. -/
inductive Spec3 where
  | s (x : Spec)
  | own (base : Nat) (e : TypeId) (k : Nat) (cs : List Value)
  | is (R : Value → World → Prop) (h : ∀ v w w', R v w → Upd [] w w' → R v w')
def Spec3.holds : Spec3 → Value → World → Prop
  | .s x, v, w => x.holds v w
  | .own b e k cs, v, w => (∃ p c, v = .slice p k c) ∧ w.ownsRow b e 1 v k cs
  | .is R _, v, w => R v w
theorem Spec3.holds_upd {s : Spec3} {v : Value} {w w' : World} (h : s.holds v w) (u : Upd [] w w') : s.holds v w' := by
  cases s with
  | s x => exact Spec.holds_upd (s := x) h u
  | is R hR => exact hR _ _ _ h u
  | own b e k cs =>
    obtain ⟨h1, h2, h3⟩ := h
    refine ⟨h1, h2, ?_⟩
    rcases h3 with h3 | ⟨g, cap, cur, hv, hb, hg, rest⟩
    · exact .inl h3
    · refine .inr ⟨g, cap, cur, hv, hb, ?_, rest⟩
      rw [u.block g (Array.getElem?_eq_some_iff.1 hg).1 (by simp)]
      exact hg

/-- The region, by specs; operation ia grows a row: what the others' values have stands at that (Kp). -/
theorem wp_region_own {id : Nat} (specs : List Spec3) (ia : Nat) (Kp : World → World → Prop) {a0 : Act} {w0 : World} {n : Nat} (hm : P.follows .mixedOrders = true) (hok : regOk ops n = true) (hn : a0.tmps.size = n)
    (hkp : ∀ k, k ≠ ia → ∀ v w w', (specs.getD k (.s .any)).holds v w → Kp w w' → (specs.getD k (.s .any)).holds v w')
    (hstep : ∀ i o, ops[i]? = some o → ∀ a w, Upd [] w0 w → (∀ t v, notDst ops t = true → a0.tmps[t]? = some v → a.tmps[t]? = some v) → (∀ j, j ∈ needsOf o → ∀ t, dstOf ops j = some t → (specs.getD j (.s .any)).holds (at_ a t) w) →
      ∀ K' : Act → World → Prop, (∀ v w', (specs.getD i (.s .any)).holds v w' → cond (Nat.beq i ia) (Upd [] w0 w' ∧ Kp w w') (Upd [] w w') → K' (a.put o.dst v) w') → if Region.wanted o (yielded ops a.tmps) = true then Oper.wp P o a w K' Q else K' (a.put o.dst undef) w)
    (hfin : ∀ a w, Upd [] w0 w → a.tmps.size = n → a.defers = a0.defers → (∀ t v, notDst ops t = true → a0.tmps[t]? = some v → a.tmps[t]? = some v) → (∀ j t, dstOf ops j = some t → (specs.getD j (.s .any)).holds (at_ a t) w) → Q .normal a w) :
    (Code.region id ops true).wp P Q a0 w0 := by
  refine wp_region_invU (Upd [] w0) (fun i => (specs.getD i (.s .any)).holds) (fun i w w' => cond (Nat.beq i ia) (Upd [] w0 w' ∧ Kp w w') (Upd [] w w')) hm hok hn (Upd.refl [] w0).drew ?_ ?_ ?_
  · intro i k v w w' hki h _ _ u
    by_cases hi : i = ia
    · subst hi
      rw [Nat.beq_refl] at u
      exact hkp k hki v w w' h u.2
    · have : Nat.beq i ia = false := by
        cases hb : Nat.beq i ia with
        | false => rfl
        | true => exact absurd (Nat.eq_of_beq_eq_true hb) hi
      rw [this] at u
      exact Spec3.holds_upd h u
  · intro i o ho a w hS hold hneed
    refine wpOp_step ho (fun K' hK => hstep i o ho a w hS (fun t v ht hv => (hold t (notDst_spec ht)).trans hv) (fun j hj t hd => ?_) K' (fun v w' hv hu => ?_))
    · unfold needsOf at hj
      rw [List.mem_filterMap] at hj
      obtain ⟨e, he, hif⟩ := hj
      split at hif
      · rename_i hb
        simp only [Option.some.injEq] at hif
        subst hif
        exact hneed e (by simpa using he) hb t hd
      · cases hif
    · refine hK _ _ ⟨v, ?_, hv, ?_, hu⟩
      · unfold dstOf; rw [ho]; rfl
      · cases hb : Nat.beq i ia with
        | true => rw [hb] at hu; exact hu.1
        | false => rw [hb] at hu; exact hS.trans_nil hu
  · intro a w hS hdf hsz hold hvals
    exact hfin a w hS (hsz.trans hn) hdf (fun t v ht hv => (hold t (notDst_spec ht)).trans hv) hvals

end Go.Proofs.Ytppbaahaegmgeaa
