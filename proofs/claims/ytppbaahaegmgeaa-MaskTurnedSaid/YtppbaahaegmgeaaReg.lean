/- A region that draws its order, by what each operation's value has: one goal for each operation, whatever the order. No program in sight. -/
import Derived.Test.YtppbaahaegmgeaaBase
import Derived.Deep.RegionHeld3
namespace Go.Proofs.Ytppbaahaegmgeaa
open Go

variable {P : Program} {ops : Array Oper} {Q : Exit → Act → World → Prop}

def dstOf (ops : Array Oper) (i : Nat) : Option Nat := (ops[i]?).bind (·.dst)
/-- Slot t of the frame. -/
def at_ (a : Act) (t : Nat) : Value := (a.tmps[t]?).getD undef

/-- No two operations yield into one slot; each slot is there; each operation waits for earlier ones alone. -/
def regOk (ops : Array Oper) (n : Nat) : Bool :=
  (List.range ops.size).all fun i => (match dstOf ops i with | some t => decide (t < n) | none => true) &&
    ((List.range ops.size).all fun j => i == j || (dstOf ops i).isNone || dstOf ops i != dstOf ops j) &&
    (match ops[i]? with | some o => o.after.all fun e => !Region.binds .any e || decide (e.on < i) | none => true)

theorem regOk_lt {n : Nat} (h : regOk ops n = true) {i t : Nat} (hd : dstOf ops i = some t) : t < n := by
  have hi : i < ops.size := by
    unfold dstOf at hd
    rcases Nat.lt_or_ge i ops.size with h | h
    · exact h
    · rw [Array.getElem?_eq_none h] at hd; cases hd
  unfold regOk at h
  rw [List.all_eq_true] at h
  have := h i (List.mem_range.2 hi)
  simp only [Bool.and_eq_true] at this
  have h1 := this.1.1
  rw [hd] at h1
  simpa using h1
theorem regOk_ne {n : Nat} (h : regOk ops n = true) {i j t : Nat} (hd : dstOf ops i = some t) (hj : dstOf ops j = some t) : i = j := by
  have hlt : ∀ {i t}, dstOf ops i = some t → i < ops.size := fun {i t} hd => by
    unfold dstOf at hd
    rcases Nat.lt_or_ge i ops.size with h | h
    · exact h
    · rw [Array.getElem?_eq_none h] at hd; cases hd
  unfold regOk at h
  rw [List.all_eq_true] at h
  have := h i (List.mem_range.2 (hlt hd))
  simp only [Bool.and_eq_true] at this
  have h1 := this.1.2
  rw [List.all_eq_true] at h1
  have := h1 j (List.mem_range.2 (hlt hj))
  rw [hd, hj] at this
  simpa using this
theorem regOk_after {n : Nat} (h : regOk ops n = true) {i : Nat} {o : Oper} (ho : ops[i]? = some o) {e} (he : e ∈ o.after) (hb : Region.binds .any e = true) : e.on < i := by
  unfold regOk at h
  rw [List.all_eq_true] at h
  have := h i (List.mem_range.2 (Array.getElem?_eq_some_iff.1 ho).1)
  simp only [Bool.and_eq_true] at this
  have h1 := this.2
  rw [ho] at h1
  simp only [Array.all_eq_true_iff_forall_mem] at h1
  have := h1 e he
  rw [hb] at this
  simpa using this

/-- What holds on the way. -/
structure RegInv (ops : Array Oper) (S : World → Prop) (R : Nat → Value → World → Prop) (a0 : Act) (listed : Array Bool) (a : Act) (w : World) : Prop where
  world : S w
  defers : a.defers = a0.defers
  size : a.tmps.size = a0.tmps.size
  old : ∀ t, (∀ i, dstOf ops i ≠ some t) → a.tmps[t]? = a0.tmps[t]?
  vals : ∀ i t, dstOf ops i = some t → listed.getD i false = true → R i (at_ a t) w

theorem at_put_same (a : Act) (t : Nat) (v : Value) (h : t < a.tmps.size) : at_ (a.put (some t) v) t = v := by
  simp [at_, Act.put, h]
theorem at_put_ne (a : Act) (d : Option Nat) (t : Nat) (v : Value) (h : d ≠ some t) : at_ (a.put d v) t = at_ a t := by
  cases d with
  | none => rfl
  | some s => simp [at_, Act.put, Array.getElem?_setIfInBounds, (show s ≠ t from fun e => h (by rw [e]))]
theorem get_put_ne (a : Act) (d : Option Nat) (t : Nat) (v : Value) (h : d ≠ some t) : (a.put d v).tmps[t]? = a.tmps[t]? := by
  cases d with
  | none => rfl
  | some s => simp [Act.put, Array.getElem?_setIfInBounds, (show s ≠ t from fun e => h (by rw [e]))]
theorem size_put (a : Act) (d : Option Nat) (v : Value) : (a.put d v).tmps.size = a.tmps.size := by
  cases d <;> simp [Act.put]
theorem defers_put (a : Act) (d : Option Nat) (v : Value) : (a.put d v).defers = a.defers := by
  cases d <;> simp [Act.put]

/-- One operation's step: what it yields has R. -/
def StepOk (P : Program) (ops : Array Oper) (Q : Exit → Act → World → Prop) (S : World → Prop) (R : Nat → Value → World → Prop) (i : Nat) (a : Act) (w : World) : Prop :=
  wpOp P ops Q i (fun a' w' => ∃ v, a' = a.put (dstOf ops i) v ∧ R i v w' ∧ S w' ∧ Upd [] w w') a w

theorem wpAny_inv {S : World → Prop} {R : Nat → Value → World → Prop} {a0 : Act} {n : Nat} (hok : regOk ops n = true) (hn : a0.tmps.size = n)
    (hR : ∀ i v w w', R i v w → S w → S w' → Upd [] w w' → R i v w')
    (hstep : ∀ i o, ops[i]? = some o → ∀ a w, S w → (∀ t, (∀ i, dstOf ops i ≠ some t) → a.tmps[t]? = a0.tmps[t]?) → (∀ e ∈ o.after, Region.binds .any e = true → ∀ t, dstOf ops e.on = some t → R e.on (at_ a t) w) → StepOk P ops Q S R i a w)
    (hfin : ∀ a w, S w → a.defers = a0.defers → a.tmps.size = a0.tmps.size → (∀ t, (∀ i, dstOf ops i ≠ some t) → a.tmps[t]? = a0.tmps[t]?) → (∀ i t, dstOf ops i = some t → R i (at_ a t) w) → Q .normal a w) :
    ∀ (fuel : Nat) (l : List Nat) (listed : Array Bool) (a : Act) (w : World), listed.size = ops.size → l.length ≤ fuel → (∀ i, listed.getD i true = false → i ∈ l) → RegInv ops S R a0 listed a w → wpAny P .any ops Q fuel listed a w := by
  have fin : ∀ (listed : Array Bool) (a : Act) (w : World), listed.size = ops.size → RegInv ops S R a0 listed a w → Region.ready .any ops listed = [] → Q .normal a w := by
    intro listed a w hls hI hr
    have hall : ∀ i, i < ops.size → listed.getD i true = true := by
      intro i
      induction i using Nat.strongRecOn with
      | ind i ih =>
        intro hi
        by_cases hl : listed.getD i true = true
        · exact hl
        · exfalso
          have hl' : listed.getD i true = false := by simpa using hl
          have ho : ops[i]? = some ops[i] := Array.getElem?_eq_getElem hi
          have : i ∈ Region.ready .any ops listed := mem_ready.2 ⟨hl', ops[i], ho, fun e he hb => by
            have hlt := regOk_after hok ho he hb
            have h2 := ih e.on hlt (by omega)
            have hes : e.on < listed.size := by omega
            simp only [Array.getD, hes, dif_pos] at h2 ⊢
            exact h2⟩
          rw [hr] at this
          cases this
    refine hfin a w hI.world hI.defers hI.size hI.old (fun i t hd => hI.vals i t hd ?_)
    have hi : i < ops.size := by
      unfold dstOf at hd
      rcases Nat.lt_or_ge i ops.size with h | h
      · exact h
      · rw [Array.getElem?_eq_none h] at hd; cases hd
    have h2 := hall i hi
    have hes : i < listed.size := by omega
    simp only [Array.getD, hes, dif_pos] at h2 ⊢
    exact h2
  intro fuel
  induction fuel with
  | zero =>
    intro l listed a w hls hll hl hI
    have hr : Region.ready .any ops listed = [] := by
      apply List.eq_nil_iff_forall_not_mem.2
      intro i hi
      have := hl i (mem_ready.1 hi).1
      have : l = [] := List.eq_nil_of_length_eq_zero (by omega)
      subst this
      simp_all
    exact ⟨hr, fin listed a w hls hI hr⟩
  | succ fuel ih =>
    intro l listed a w hls hll hl hI
    refine ⟨fin listed a w hls hI, fun i hi => ?_⟩
    obtain ⟨hun, o, ho, haf⟩ := mem_ready.1 hi
    have hil : i ∈ l := hl i hun
    have hisz : i < listed.size := by
      have := (Array.getElem?_eq_some_iff.1 ho).1
      omega
    refine wpOp_mono ?_ (hstep i o ho a w hI.world hI.old (fun e he hb t hd => hI.vals e.on t hd (haf e he hb)))
    rintro a' w' ⟨v, rfl, hRv, hSw, hU⟩
    refine ih (l.erase i) _ _ _ (by simpa using hls) (by rw [List.length_erase_of_mem hil]; omega) (fun j hj => ?_) ⟨hSw, (defers_put _ _ _).trans hI.defers, (size_put _ _ _).trans hI.size, fun t ht => (get_put_ne _ _ _ _ (ht i)).trans (hI.old t ht), fun j t hd hj => ?_⟩
    · have hji : j ≠ i := fun e => by
        subst e
        simp [Array.getD, hisz] at hj
      refine (List.mem_erase_of_ne hji).2 (hl j ?_)
      by_cases hjs : j < listed.size
      · simp only [Array.getD, Array.size_setIfInBounds, hjs, dif_pos] at hj ⊢
        rw [Array.getInternal_eq_getElem, Array.getElem_setIfInBounds_ne _ (Ne.symm hji)] at hj
        exact hj
      · simp only [Array.getD, Array.size_setIfInBounds, hjs, dif_neg, not_false_eq_true] at hj
        cases hj
    · by_cases hji : j = i
      · subst hji
        rw [hd, at_put_same _ _ _ (by rw [hI.size, hn]; exact regOk_lt hok hd)]
        exact hRv
      · have hne : dstOf ops i ≠ some t := fun h => hji (regOk_ne hok hd h)
        rw [at_put_ne _ _ _ _ hne]
        refine hR _ _ _ _ (hI.vals j t hd ?_) hI.world hSw hU
        by_cases hjs : j < listed.size
        · simp only [Array.getD, Array.size_setIfInBounds, hjs, dif_pos] at hj ⊢
          rw [Array.getInternal_eq_getElem, Array.getElem_setIfInBounds_ne _ (Ne.symm hji)] at hj
          exact hj
        · simp only [Array.getD, Array.size_setIfInBounds, hjs, dif_neg, not_false_eq_true] at hj
          cases hj

/-- The region. -/
theorem wp_region_inv {id : Nat} (S : World → Prop) (R : Nat → Value → World → Prop) {a0 : Act} {w0 : World} {n : Nat} (hm : P.follows .mixedOrders = true) (hok : regOk ops n = true) (hn : a0.tmps.size = n) (hS : S w0.drew)
    (hR : ∀ i v w w', R i v w → S w → S w' → Upd [] w w' → R i v w')
    (hstep : ∀ i o, ops[i]? = some o → ∀ a w, S w → (∀ t, (∀ i, dstOf ops i ≠ some t) → a.tmps[t]? = a0.tmps[t]?) → (∀ e ∈ o.after, Region.binds .any e = true → ∀ t, dstOf ops e.on = some t → R e.on (at_ a t) w) → StepOk P ops Q S R i a w)
    (hfin : ∀ a w, S w → a.defers = a0.defers → a.tmps.size = a0.tmps.size → (∀ t, (∀ i, dstOf ops i ≠ some t) → a.tmps[t]? = a0.tmps[t]?) → (∀ i t, dstOf ops i = some t → R i (at_ a t) w) → Q .normal a w) :
    (Code.region id ops true).wp P Q a0 w0 :=
  wp_region_any hm (wpAny_inv hok hn hR hstep hfin ops.size (List.range ops.size) _ _ _ (by simp) (by simp) (fun i hi => by
    by_cases h : i < ops.size
    · exact List.mem_range.2 h
    · simp [Array.getD, h] at hi) ⟨hS, rfl, rfl, fun _ _ => rfl, fun i t hd hi => by
      exfalso
      by_cases h : i < ops.size <;> simp [Array.getD, h] at hi⟩)

/-- What an operation's value has: it is x; it is a slice of a new block that holds cs; whatever; it is x if c is; it points at a new block that holds cs. -/
inductive Spec where
  | eq (x : Value)
  | sl (len cap : Nat) (cs : List Value) (T : TypeId)
  | any
  | wh (c : Bool) (x : Value)
  | pt (cs : List Value) (T : TypeId)
def Spec.holds : Spec → Value → World → Prop
  | .eq x, v, _ => v = x
  | .sl n c cs T, v, w => ∃ b, v = .slice (some ⟨b, 0, none⟩) n c ∧ Blk w b cs T
  | .any, _, _ => True
  | .wh c x, v, _ => c = true → v = x
  | .pt cs T, v, w => ∃ b, v = .pointer (some ⟨b, 0, none⟩) ∧ Blk w b cs T
theorem Spec.holds_upd {s : Spec} {v : Value} {w w' : World} (h : s.holds v w) (u : Upd [] w w') : s.holds v w' := by
  cases s with
  | eq x => exact h
  | sl n c cs T => obtain ⟨b, h1, h2⟩ := h; exact ⟨b, h1, h2.upd_nil u⟩
  | any => trivial
  | wh c x => exact h
  | pt cs T => obtain ⟨b, h1, h2⟩ := h; exact ⟨b, h1, h2.upd_nil u⟩

theorem get_of_at {a : Act} {t : Nat} {v : Value} (h : at_ a t = v) (hv : v ≠ undef) : a.tmps[t]? = some v := by
  unfold at_ at h
  cases hg : a.tmps[t]? with
  | none => rw [hg] at h; exact absurd h.symm hv
  | some u => rw [hg] at h; simpa using h

def needsOf (o : Oper) : List Nat := o.after.toList.filterMap fun e => if Region.binds .any e = true then some e.on else none
def notDst (ops : Array Oper) (t : Nat) : Bool := (List.range ops.size).all fun i => dstOf ops i != some t
theorem notDst_spec {t : Nat} (h : notDst ops t = true) : ∀ i, dstOf ops i ≠ some t := by
  intro i hi
  have hlt : i < ops.size := by
    unfold dstOf at hi
    rcases Nat.lt_or_ge i ops.size with h | h
    · exact h
    · rw [Array.getElem?_eq_none h] at hi; cases hi
  unfold notDst at h
  rw [List.all_eq_true] at h
  have := h i (List.mem_range.2 hlt)
  rw [hi] at this
  simp at this

/-- The region, by specs. -/
theorem wp_region_spec {id : Nat} (specs : List Spec) {a0 : Act} {w0 : World} {n : Nat} (hm : P.follows .mixedOrders = true) (hok : regOk ops n = true) (hn : a0.tmps.size = n)
    (hstep : ∀ i o, ops[i]? = some o → ∀ a w, Upd [] w0 w → (∀ t v, notDst ops t = true → a0.tmps[t]? = some v → a.tmps[t]? = some v) → (∀ j, j ∈ needsOf o → ∀ t, dstOf ops j = some t → (specs.getD j .any).holds (at_ a t) w) →
      ∀ K' : Act → World → Prop, (∀ v w', (specs.getD i .any).holds v w' → Upd [] w w' → K' (a.put o.dst v) w') → if Region.wanted o (yielded ops a.tmps) = true then Oper.wp P o a w K' Q else K' (a.put o.dst undef) w)
    (hfin : ∀ a w, Upd [] w0 w → a.tmps.size = n → a.defers = a0.defers → (∀ t v, notDst ops t = true → a0.tmps[t]? = some v → a.tmps[t]? = some v) → (∀ j t, dstOf ops j = some t → (specs.getD j .any).holds (at_ a t) w) → Q .normal a w) :
    (Code.region id ops true).wp P Q a0 w0 := by
  refine wp_region_inv (Upd [] w0) (fun i => (specs.getD i .any).holds) hm hok hn (Upd.refl [] w0).drew (fun i v w w' h _ _ u => Spec.holds_upd h u) ?_ ?_
  · intro i o ho a w hS hold hneed
    refine wpOp_step ho (fun K' hK => hstep i o ho a w hS (fun t v ht hv => (hold t (notDst_spec ht)).trans hv) (fun j hj t hd => ?_) K' (fun v w' hv hu => ?_))
    · unfold needsOf at hj
      rw [List.mem_filterMap] at hj
      obtain ⟨e, he, hif⟩ := hj
      split at hif
      · rename_i hb
        simp only [Option.some.injEq] at hif
        subst hif
        exact hneed e (by simpa using he) hb t hd
      · cases hif
    · refine hK _ _ ⟨v, ?_, hv, hS.trans_nil hu, hu⟩
      unfold dstOf; rw [ho]; rfl
  · intro a w hS hdf hsz hold hvals
    exact hfin a w hS (hsz.trans hn) hdf (fun t v ht hv => (hold t (notDst_spec ht)).trans hv) hvals

/-- The slots of a frame from k on. -/
def RowIs (a : Act) (k : Nat) (l : List Value) : Prop := ∀ i v, l[i]? = some v → at_ a (k + i) = v
theorem RowIs.nil (a : Act) (k : Nat) : RowIs a k [] := fun i v h => by simp at h
theorem RowIs.cons {a : Act} {k : Nat} {v : Value} {l : List Value} (h : at_ a k = v) (t : RowIs a (k + 1) l) : RowIs a k (v :: l) := fun i u hu => by
  cases i with
  | zero => simp at hu; subst hu; exact h
  | succ i => simp at hu; have := t i u hu; rw [show k + (i + 1) = k + 1 + i by omega]; exact this
theorem at_of_get {a : Act} {t : Nat} {v : Value} (h : a.tmps[t]? = some v) : at_ a t = v := by simp [at_, h]
theorem act_lit {a : Act} {n : Nat} {l : List Value} {ds} (hsz : a.tmps.size = n) (hd : a.defers = ds) (h : RowIs a 0 l) (hl : l.length = n) : a = { tmps := l.toArray, defers := ds } := by
  obtain ⟨ts, d⟩ := a
  dsimp only at hsz hd
  subst hd
  congr 1
  apply Array.ext
  · simp; omega
  · intro i h1 h2
    have h3 : i < l.length := by simpa using h2
    have := h i l[i] (by simp [h3])
    simp only [at_, Nat.zero_add] at this
    have h4 : ts[i]? = some ts[i] := by simp [h1]
    rw [h4] at this
    simpa using this

end Go.Proofs.Ytppbaahaegmgeaa
