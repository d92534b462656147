/- A region that draws its order, by what each operation's value has: one goal for each operation, whatever the order. No program in sight. -/
import Derived.Test.YtppbaahaegmgeaaBase
import Derived.Deep.RegionHeld3
import Derived.StillTail
namespace Go.Proofs.Ytppbaahaegmgeaa
open Go

variable {P : Program} {ops : Array Oper} {Q : Exit → Act → World → Prop}

def dstOf (ops : Array Oper) (i : Nat) : Option Nat := (ops[i]?).bind (·.dst)
/-- Slot t of the frame. -/
def at_ (a : Act) (t : Nat) : Value := (a.tmps[t]?).getD undef

/-- No two operations yield into one slot; each slot is there; each operation waits for earlier ones alone. -/
def regOk (ops : Array Oper) (n : Nat) : Bool :=
  (List.range ops.size).all fun i => (match dstOf ops i with | some t => decide (t < n) | none => true) &&
    ((List.range ops.size).all fun j => i == j || (dstOf ops i).isNone || dstOf ops i != dstOf ops j) &&
    (match ops[i]? with | some o => o.after.all fun e => !Region.binds .any e || decide (e.on < i) | none => true)

theorem regOk_lt {n : Nat} (h : regOk ops n = true) {i t : Nat} (hd : dstOf ops i = some t) : t < n := by
  have hi : i < ops.size := by
    unfold dstOf at hd
    rcases Nat.lt_or_ge i ops.size with h | h
    · exact h
    · rw [Array.getElem?_eq_none h] at hd; cases hd
  unfold regOk at h
  rw [List.all_eq_true] at h
  have := h i (List.mem_range.2 hi)
  simp only [Bool.and_eq_true] at this
  have h1 := this.1.1
  rw [hd] at h1
  simpa using h1
theorem regOk_ne {n : Nat} (h : regOk ops n = true) {i j t : Nat} (hd : dstOf ops i = some t) (hj : dstOf ops j = some t) : i = j := by
  have hlt : ∀ {i t}, dstOf ops i = some t → i < ops.size := fun {i t} hd => by
    unfold dstOf at hd
    rcases Nat.lt_or_ge i ops.size with h | h
    · exact h
    · rw [Array.getElem?_eq_none h] at hd; cases hd
  unfold regOk at h
  rw [List.all_eq_true] at h
  have := h i (List.mem_range.2 (hlt hd))
  simp only [Bool.and_eq_true] at this
  have h1 := this.1.2
  rw [List.all_eq_true] at h1
  have := h1 j (List.mem_range.2 (hlt hj))
  rw [hd, hj] at this
  simpa using this
theorem regOk_after {n : Nat} (h : regOk ops n = true) {i : Nat} {o : Oper} (ho : ops[i]? = some o) {e} (he : e ∈ o.after) (hb : Region.binds .any e = true) : e.on < i := by
  unfold regOk at h
  rw [List.all_eq_true] at h
  have := h i (List.mem_range.2 (Array.getElem?_eq_some_iff.1 ho).1)
  simp only [Bool.and_eq_true] at this
  have h1 := this.2
  rw [ho] at h1
  simp only [Array.all_eq_true_iff_forall_mem] at h1
  have := h1 e he
  rw [hb] at this
  simpa using this

/-- What holds on the way. -/
structure RegInv (ops : Array Oper) (S : World → Prop) (R : Nat → Value → World → Prop) (a0 : Act) (listed : Array Bool) (a : Act) (w : World) : Prop where
  world : S w
  defers : a.defers = a0.defers
  size : a.tmps.size = a0.tmps.size
  old : ∀ t, (∀ i, dstOf ops i ≠ some t) → a.tmps[t]? = a0.tmps[t]?
  vals : ∀ i t, dstOf ops i = some t → listed.getD i false = true → R i (at_ a t) w

theorem at_put_same (a : Act) (t : Nat) (v : Value) (h : t < a.tmps.size) : at_ (a.put (some t) v) t = v := by
  simp [at_, Act.put, h]
theorem at_put_ne (a : Act) (d : Option Nat) (t : Nat) (v : Value) (h : d ≠ some t) : at_ (a.put d v) t = at_ a t := by
  cases d with
  | none => rfl
  | some s => simp [at_, Act.put, Array.getElem?_setIfInBounds, (show s ≠ t from fun e => h (by rw [e]))]
theorem get_put_ne (a : Act) (d : Option Nat) (t : Nat) (v : Value) (h : d ≠ some t) : (a.put d v).tmps[t]? = a.tmps[t]? := by
  cases d with
  | none => rfl
  | some s => simp [Act.put, Array.getElem?_setIfInBounds, (show s ≠ t from fun e => h (by rw [e]))]
theorem size_put (a : Act) (d : Option Nat) (v : Value) : (a.put d v).tmps.size = a.tmps.size := by
  cases d <;> simp [Act.put]
theorem defers_put (a : Act) (d : Option Nat) (v : Value) : (a.put d v).defers = a.defers := by
  cases d <;> simp [Act.put]

/-- One operation's step: what it yields has R. -/
def StepOk (P : Program) (ops : Array Oper) (Q : Exit → Act → World → Prop) (S : World → Prop) (R : Nat → Value → World → Prop) (i : Nat) (a : Act) (w : World) : Prop :=
  wpOp P ops Q i (fun a' w' => ∃ v, a' = a.put (dstOf ops i) v ∧ R i v w' ∧ S w' ∧ Upd [] w w') a w

theorem wpAny_inv {S : World → Prop} {R : Nat → Value → World → Prop} {a0 : Act} {n : Nat} (hok : regOk ops n = true) (hn : a0.tmps.size = n)
    (hR : ∀ i v w w', R i v w → S w → S w' → Upd [] w w' → R i v w')
    (hstep : ∀ i o, ops[i]? = some o → ∀ a w, S w → (∀ t, (∀ i, dstOf ops i ≠ some t) → a.tmps[t]? = a0.tmps[t]?) → (∀ e ∈ o.after, Region.binds .any e = true → ∀ t, dstOf ops e.on = some t → R e.on (at_ a t) w) → StepOk P ops Q S R i a w)
    (hfin : ∀ a w, S w → a.defers = a0.defers → a.tmps.size = a0.tmps.size → (∀ t, (∀ i, dstOf ops i ≠ some t) → a.tmps[t]? = a0.tmps[t]?) → (∀ i t, dstOf ops i = some t → R i (at_ a t) w) → Q .normal a w) :
    ∀ (fuel : Nat) (l : List Nat) (listed : Array Bool) (a : Act) (w : World), listed.size = ops.size → l.length ≤ fuel → (∀ i, listed.getD i true = false → i ∈ l) → RegInv ops S R a0 listed a w → wpAny P .any ops Q fuel listed a w := by
  have fin : ∀ (listed : Array Bool) (a : Act) (w : World), listed.size = ops.size → RegInv ops S R a0 listed a w → Region.ready .any ops listed = [] → Q .normal a w := by
    intro listed a w hls hI hr
    have hall : ∀ i, i < ops.size → listed.getD i true = true := by
      intro i
      induction i using Nat.strongRecOn with
      | ind i ih =>
        intro hi
        by_cases hl : listed.getD i true = true
        · exact hl
        · exfalso
          have hl' : listed.getD i true = false := by simpa using hl
          have ho : ops[i]? = some ops[i] := Array.getElem?_eq_getElem hi
          have : i ∈ Region.ready .any ops listed := mem_ready.2 ⟨hl', ops[i], ho, fun e he hb => by
            have hlt := regOk_after hok ho he hb
            have h2 := ih e.on hlt (by omega)
            have hes : e.on < listed.size := by omega
            simp only [Array.getD, hes, dif_pos] at h2 ⊢
            exact h2⟩
          rw [hr] at this
          cases this
    refine hfin a w hI.world hI.defers hI.size hI.old (fun i t hd => hI.vals i t hd ?_)
    have hi : i < ops.size := by
      unfold dstOf at hd
      rcases Nat.lt_or_ge i ops.size with h | h
      · exact h
      · rw [Array.getElem?_eq_none h] at hd; cases hd
    have h2 := hall i hi
    have hes : i < listed.size := by omega
    simp only [Array.getD, hes, dif_pos] at h2 ⊢
    exact h2
  intro fuel
  induction fuel with
  | zero =>
    intro l listed a w hls hll hl hI
    have hr : Region.ready .any ops listed = [] := by
      apply List.eq_nil_iff_forall_not_mem.2
      intro i hi
      have := hl i (mem_ready.1 hi).1
      have : l = [] := List.eq_nil_of_length_eq_zero (by omega)
      subst this
      simp_all
    exact ⟨hr, fin listed a w hls hI hr⟩
  | succ fuel ih =>
    intro l listed a w hls hll hl hI
    refine ⟨fin listed a w hls hI, fun i hi => ?_⟩
    obtain ⟨hun, o, ho, haf⟩ := mem_ready.1 hi
    have hil : i ∈ l := hl i hun
    have hisz : i < listed.size := by
      have := (Array.getElem?_eq_some_iff.1 ho).1
      omega
    refine wpOp_mono ?_ (hstep i o ho a w hI.world hI.old (fun e he hb t hd => hI.vals e.on t hd (haf e he hb)))
    rintro a' w' ⟨v, rfl, hRv, hSw, hU⟩
    refine ih (l.erase i) _ _ _ (by simpa using hls) (by rw [List.length_erase_of_mem hil]; omega) (fun j hj => ?_) ⟨hSw, (defers_put _ _ _).trans hI.defers, (size_put _ _ _).trans hI.size, fun t ht => (get_put_ne _ _ _ _ (ht i)).trans (hI.old t ht), fun j t hd hj => ?_⟩
    · have hji : j ≠ i := fun e => by
        subst e
        simp [Array.getD, hisz] at hj
      refine (List.mem_erase_of_ne hji).2 (hl j ?_)
      by_cases hjs : j < listed.size
      · simp only [Array.getD, Array.size_setIfInBounds, hjs, dif_pos] at hj ⊢
        rw [Array.getInternal_eq_getElem, Array.getElem_setIfInBounds_ne _ (Ne.symm hji)] at hj
        exact hj
      · simp only [Array.getD, Array.size_setIfInBounds, hjs, dif_neg, not_false_eq_true] at hj
        cases hj
    · by_cases hji : j = i
      · subst hji
        rw [hd, at_put_same _ _ _ (by rw [hI.size, hn]; exact regOk_lt hok hd)]
        exact hRv
      · have hne : dstOf ops i ≠ some t := fun h => hji (regOk_ne hok hd h)
        rw [at_put_ne _ _ _ _ hne]
        refine hR _ _ _ _ (hI.vals j t hd ?_) hI.world hSw hU
        by_cases hjs : j < listed.size
        · simp only [Array.getD, Array.size_setIfInBounds, hjs, dif_pos] at hj ⊢
          rw [Array.getInternal_eq_getElem, Array.getElem_setIfInBounds_ne _ (Ne.symm hji)] at hj
          exact hj
        · simp only [Array.getD, Array.size_setIfInBounds, hjs, dif_neg, not_false_eq_true] at hj
          cases hj

/-- The region. -/
theorem wp_region_inv {id : Nat} (S : World → Prop) (R : Nat → Value → World → Prop) {a0 : Act} {w0 : World} {n : Nat} (hm : P.follows .mixedOrders = true) (hok : regOk ops n = true) (hn : a0.tmps.size = n) (hS : S w0.drew)
    (hR : ∀ i v w w', R i v w → S w → S w' → Upd [] w w' → R i v w')
    (hstep : ∀ i o, ops[i]? = some o → ∀ a w, S w → (∀ t, (∀ i, dstOf ops i ≠ some t) → a.tmps[t]? = a0.tmps[t]?) → (∀ e ∈ o.after, Region.binds .any e = true → ∀ t, dstOf ops e.on = some t → R e.on (at_ a t) w) → StepOk P ops Q S R i a w)
    (hfin : ∀ a w, S w → a.defers = a0.defers → a.tmps.size = a0.tmps.size → (∀ t, (∀ i, dstOf ops i ≠ some t) → a.tmps[t]? = a0.tmps[t]?) → (∀ i t, dstOf ops i = some t → R i (at_ a t) w) → Q .normal a w) :
    (Code.region id ops true).wp P Q a0 w0 :=
  wp_region_any hm (wpAny_inv hok hn hR hstep hfin ops.size (List.range ops.size) _ _ _ (by simp) (by simp) (fun i hi => by
    by_cases h : i < ops.size
    · exact List.mem_range.2 h
    · simp [Array.getD, h] at hi) ⟨hS, rfl, rfl, fun _ _ => rfl, fun i t hd hi => by
      exfalso
      by_cases h : i < ops.size <;> simp [Array.getD, h] at hi⟩)

/-- What an operation's value has: it is x; it is a slice of a new block that holds cs; whatever; it is x if c is; it points at a new block that holds cs. -/
inductive Spec where
  | eq (x : Value)
  | sl (len cap : Nat) (cs : List Value) (T : TypeId)
  | any
  | wh (c : Bool) (x : Value)
  | pt (cs : List Value) (T : TypeId)
def Spec.holds : Spec → Value → World → Prop
  | .eq x, v, _ => v = x
  | .sl n c cs T, v, w => ∃ b, v = .slice (some ⟨b, 0, none⟩) n c ∧ Blk w b cs T
  | .any, _, _ => True
  | .wh c x, v, _ => c = true → v = x
  | .pt cs T, v, w => ∃ b, v = .pointer (some ⟨b, 0, none⟩) ∧ Blk w b cs T
theorem Spec.holds_upd {s : Spec} {v : Value} {w w' : World} (h : s.holds v w) (u : Upd [] w w') : s.holds v w' := by
  cases s with
  | eq x => exact h
  | sl n c cs T => obtain ⟨b, h1, h2⟩ := h; exact ⟨b, h1, h2.upd_nil u⟩
  | any => trivial
  | wh c x => exact h
  | pt cs T => obtain ⟨b, h1, h2⟩ := h; exact ⟨b, h1, h2.upd_nil u⟩

theorem get_of_at {a : Act} {t : Nat} {v : Value} (h : at_ a t = v) (hv : v ≠ undef) : a.tmps[t]? = some v := by
  unfold at_ at h
  cases hg : a.tmps[t]? with
  | none => rw [hg] at h; exact absurd h.symm hv
  | some u => rw [hg] at h; simpa using h

def needsOf (o : Oper) : List Nat := o.after.toList.filterMap fun e => if Region.binds .any e = true then some e.on else none
def notDst (ops : Array Oper) (t : Nat) : Bool := (List.range ops.size).all fun i => dstOf ops i != some t
theorem notDst_spec {t : Nat} (h : notDst ops t = true) : ∀ i, dstOf ops i ≠ some t := by
  intro i hi
  have hlt : i < ops.size := by
    unfold dstOf at hi
    rcases Nat.lt_or_ge i ops.size with h | h
    · exact h
    · rw [Array.getElem?_eq_none h] at hi; cases hi
  unfold notDst at h
  rw [List.all_eq_true] at h
  have := h i (List.mem_range.2 hlt)
  rw [hi] at this
  simp at this

/-- The region, by specs. -/
theorem wp_region_spec {id : Nat} (specs : List Spec) {a0 : Act} {w0 : World} {n : Nat} (hm : P.follows .mixedOrders = true) (hok : regOk ops n = true) (hn : a0.tmps.size = n)
    (hstep : ∀ i o, ops[i]? = some o → ∀ a w, Upd [] w0 w → (∀ t v, notDst ops t = true → a0.tmps[t]? = some v → a.tmps[t]? = some v) → (∀ j, j ∈ needsOf o → ∀ t, dstOf ops j = some t → (specs.getD j .any).holds (at_ a t) w) →
      ∀ K' : Act → World → Prop, (∀ v w', (specs.getD i .any).holds v w' → Upd [] w w' → K' (a.put o.dst v) w') → if Region.wanted o (yielded ops a.tmps) = true then Oper.wp P o a w K' Q else K' (a.put o.dst undef) w)
    (hfin : ∀ a w, Upd [] w0 w → a.tmps.size = n → a.defers = a0.defers → (∀ t v, notDst ops t = true → a0.tmps[t]? = some v → a.tmps[t]? = some v) → (∀ j t, dstOf ops j = some t → (specs.getD j .any).holds (at_ a t) w) → Q .normal a w) :
    (Code.region id ops true).wp P Q a0 w0 := by
  refine wp_region_inv (Upd [] w0) (fun i => (specs.getD i .any).holds) hm hok hn (Upd.refl [] w0).drew (fun i v w w' h _ _ u => Spec.holds_upd h u) ?_ ?_
  · intro i o ho a w hS hold hneed
    refine wpOp_step ho (fun K' hK => hstep i o ho a w hS (fun t v ht hv => (hold t (notDst_spec ht)).trans hv) (fun j hj t hd => ?_) K' (fun v w' hv hu => ?_))
    · unfold needsOf at hj
      rw [List.mem_filterMap] at hj
      obtain ⟨e, he, hif⟩ := hj
      split at hif
      · rename_i hb
        simp only [Option.some.injEq] at hif
        subst hif
        exact hneed e (by simpa using he) hb t hd
      · cases hif
    · refine hK _ _ ⟨v, ?_, hv, hS.trans_nil hu, hu⟩
      unfold dstOf; rw [ho]; rfl
  · intro a w hS hdf hsz hold hvals
    exact hfin a w hS (hsz.trans hn) hdf (fun t v ht hv => (hold t (notDst_spec ht)).trans hv) hvals

/-- The slots of a frame from k on. -/
def RowIs (a : Act) (k : Nat) (l : List Value) : Prop := ∀ i v, l[i]? = some v → at_ a (k + i) = v
theorem RowIs.nil (a : Act) (k : Nat) : RowIs a k [] := fun i v h => by simp at h
theorem RowIs.cons {a : Act} {k : Nat} {v : Value} {l : List Value} (h : at_ a k = v) (t : RowIs a (k + 1) l) : RowIs a k (v :: l) := fun i u hu => by
  cases i with
  | zero => simp at hu; subst hu; exact h
  | succ i => simp at hu; have := t i u hu; rw [show k + (i + 1) = k + 1 + i by omega]; exact this
theorem at_of_get {a : Act} {t : Nat} {v : Value} (h : a.tmps[t]? = some v) : at_ a t = v := by simp [at_, h]
theorem act_lit {a : Act} {n : Nat} {l : List Value} {ds} (hsz : a.tmps.size = n) (hd : a.defers = ds) (h : RowIs a 0 l) (hl : l.length = n) : a = { tmps := l.toArray, defers := ds } := by
  obtain ⟨ts, d⟩ := a
  dsimp only at hsz hd
  subst hd
  congr 1
  apply Array.ext
  · simp; omega
  · intro i h1 h2
    have h3 : i < l.length := by simpa using h2
    have := h i l[i] (by simp [h3])
    simp only [at_, Nat.zero_add] at this
    have h4 : ts[i]? = some ts[i] := by simp [h1]
    rw [h4] at this
    simpa using this

end Go.Proofs.Ytppbaahaegmgeaa

/- A region that draws its order, some of whose operations write: by what each value has, and what each writing operation finds and leaves. No program in sight. -/
namespace Go.Proofs.Ytppbaahaegmgeaa
open Go

variable {P : Program} {ops : Array Oper} {Q : Exit → Act → World → Prop}

/-- What an operation writes: the blocks, what it finds, what it leaves. -/
structure Eff where
  ws : List Nat
  pre : World → Prop
  post : World → Prop
def Eff.none : Eff := ⟨[], fun _ => True, fun _ => True⟩
def effOf (E : List (Nat × Eff)) (i : Nat) : Eff := match E with
  | [] => Eff.none
  | x :: r => if x.1 = i then x.2 else effOf r i

/-- k waits for i, through others too. -/
def waitsOn (ops : Array Oper) : Nat → Nat → Nat → Bool
  | 0, _, _ => false
  | f + 1, k, i => match ops[k]? with
    | some o => o.after.any fun e => Region.binds .any e && (e.on == i || waitsOn ops f e.on i)
    | none => false

structure RewInv (ops : Array Oper) (S : World → Prop) (R : Nat → Value → World → Prop) (E : List (Nat × Eff)) (a0 : Act) (listed : Array Bool) (a : Act) (w : World) : Prop where
  world : S w
  defers : a.defers = a0.defers
  size : a.tmps.size = a0.tmps.size
  old : ∀ t, (∀ i, dstOf ops i ≠ some t) → a.tmps[t]? = a0.tmps[t]?
  vals : ∀ i t, dstOf ops i = some t → listed.getD i false = true → R i (at_ a t) w
  posts : ∀ i, listed.getD i false = true → (effOf E i).post w
  pres : ∀ i, listed.getD i false = false → (effOf E i).pre w
  closed : ∀ i o e, ops[i]? = some o → listed.getD i false = true → e ∈ o.after → Region.binds .any e = true → listed.getD e.on false = true

def RewStep (P : Program) (ops : Array Oper) (Q : Exit → Act → World → Prop) (S : World → Prop) (R : Nat → Value → World → Prop) (E : List (Nat × Eff)) (i : Nat) (a : Act) (w : World) : Prop :=
  wpOp P ops Q i (fun a' w' => ∃ v, a' = a.put (dstOf ops i) v ∧ R i v w' ∧ (effOf E i).post w' ∧ S w' ∧ Upd (effOf E i).ws w w') a w

theorem getD_set_ne (l : Array Bool) (i j : Nat) (h : j ≠ i) (b d : Bool) : (l.setIfInBounds i b).getD j d = l.getD j d := by
  by_cases hj : j < l.size
  · simp only [Array.getD, Array.size_setIfInBounds, hj, dif_pos]
    rw [Array.getInternal_eq_getElem, Array.getElem_setIfInBounds_ne _ (Ne.symm h)]
    rfl
  · simp only [Array.getD, Array.size_setIfInBounds, hj, dif_neg, not_false_eq_true]
theorem getD_set_same (l : Array Bool) (i : Nat) (h : i < l.size) (b d : Bool) : (l.setIfInBounds i b).getD i d = b := by
  simp [Array.getD, h]
theorem getD_ff (l : Array Bool) (i : Nat) (h : i < l.size) (b d : Bool) : l.getD i b = l.getD i d := by
  simp [Array.getD, h]

theorem wpAny_rew {S : World → Prop} {R : Nat → Value → World → Prop} {E : List (Nat × Eff)} {a0 : Act} {n : Nat} (hok : regOk ops n = true) (hn : a0.tmps.size = n)
    (hR : ∀ i k v w w', k ≠ i → R k v w → S w → S w' → Upd (effOf E i).ws w w' → R k v w')
    (hE : ∀ i k w w', k ≠ i → S w → S w' → Upd (effOf E i).ws w w' → ((effOf E k).pre w → (effOf E k).pre w') ∧ ((effOf E k).post w → (effOf E k).post w'))
    (hstep : ∀ i o, ops[i]? = some o → ∀ a w, S w → (∀ t, (∀ i, dstOf ops i ≠ some t) → a.tmps[t]? = a0.tmps[t]?) → (∀ e ∈ o.after, Region.binds .any e = true → (effOf E e.on).post w ∧ ∀ t, dstOf ops e.on = some t → R e.on (at_ a t) w) →
      (∀ k, k = i ∨ waitsOn ops ops.size k i = true → (effOf E k).pre w) → RewStep P ops Q S R E i a w)
    (hfin : ∀ a w, S w → a.defers = a0.defers → a.tmps.size = a0.tmps.size → (∀ t, (∀ i, dstOf ops i ≠ some t) → a.tmps[t]? = a0.tmps[t]?) → (∀ i t, dstOf ops i = some t → R i (at_ a t) w) → (∀ i, i < ops.size → (effOf E i).post w) → Q .normal a w) :
    ∀ (fuel : Nat) (l : List Nat) (listed : Array Bool) (a : Act) (w : World), listed.size = ops.size → l.length ≤ fuel → (∀ i, listed.getD i true = false → i ∈ l) → RewInv ops S R E a0 listed a w → wpAny P .any ops Q fuel listed a w := by
  have fin : ∀ (listed : Array Bool) (a : Act) (w : World), listed.size = ops.size → RewInv ops S R E a0 listed a w → Region.ready .any ops listed = [] → Q .normal a w := by
    intro listed a w hls hI hr
    have hall : ∀ i, i < ops.size → listed.getD i true = true := by
      intro i
      induction i using Nat.strongRecOn with
      | ind i ih =>
        intro hi
        by_cases hl : listed.getD i true = true
        · exact hl
        · exfalso
          have hl' : listed.getD i true = false := by simpa using hl
          have ho : ops[i]? = some ops[i] := Array.getElem?_eq_getElem hi
          have : i ∈ Region.ready .any ops listed := mem_ready.2 ⟨hl', ops[i], ho, fun e he hb => by
            have hlt := regOk_after hok ho he hb
            have h2 := ih e.on hlt (by omega)
            rw [getD_ff _ _ (by omega) _ true]; exact h2⟩
          rw [hr] at this
          cases this
    refine hfin a w hI.world hI.defers hI.size hI.old (fun i t hd => hI.vals i t hd ?_) (fun i hi => hI.posts i ?_)
    · have hi : i < ops.size := by
        unfold dstOf at hd
        rcases Nat.lt_or_ge i ops.size with h | h
        · exact h
        · rw [Array.getElem?_eq_none h] at hd; cases hd
      rw [getD_ff _ _ (by omega) _ true]; exact hall i hi
    · rw [getD_ff _ _ (by omega) _ true]; exact hall i hi
  have hwait : ∀ (listed : Array Bool) (a : Act) (w : World), RewInv ops S R E a0 listed a w → ∀ i, listed.getD i false = false → ∀ f k, waitsOn ops f k i = true → listed.getD k false = false := by
    intro listed a w hI i hi f
    induction f with
    | zero => intro k hk; simp [waitsOn] at hk
    | succ f ihf =>
      intro k hk
      unfold waitsOn at hk
      cases ho : ops[k]? with
      | none => rw [ho] at hk; cases hk
      | some o =>
        rw [ho] at hk
        dsimp only at hk
        rw [Array.any_eq_true'] at hk
        obtain ⟨e, he, hb⟩ := hk
        rw [Bool.and_eq_true, Bool.or_eq_true] at hb
        cases hc : listed.getD k false with
        | false => rfl
        | true =>
          have h2 := hI.closed k o e ho hc he hb.1
          rcases hb.2 with h3 | h3
          · rw [beq_iff_eq] at h3; rw [h3, hi] at h2; cases h2
          · rw [ihf e.on h3] at h2; cases h2
  intro fuel
  induction fuel with
  | zero =>
    intro l listed a w hls hll hl hI
    have hr : Region.ready .any ops listed = [] := by
      apply List.eq_nil_iff_forall_not_mem.2
      intro i hi
      have := hl i (mem_ready.1 hi).1
      have : l = [] := List.eq_nil_of_length_eq_zero (by omega)
      subst this
      simp_all
    exact ⟨hr, fin listed a w hls hI hr⟩
  | succ fuel ih =>
    intro l listed a w hls hll hl hI
    refine ⟨fin listed a w hls hI, fun i hi => ?_⟩
    obtain ⟨hun, o, ho, haf⟩ := mem_ready.1 hi
    have hil : i ∈ l := hl i hun
    have hisz : i < listed.size := by
      have := (Array.getElem?_eq_some_iff.1 ho).1
      omega
    have hun' : listed.getD i false = false := by rw [getD_ff _ _ hisz _ true]; exact hun
    refine wpOp_mono ?_ (hstep i o ho a w hI.world hI.old (fun e he hb => ⟨hI.posts e.on (haf e he hb), fun t hd => hI.vals e.on t hd (haf e he hb)⟩) (fun k hk => hI.pres k ?_))
    · rintro a' w' ⟨v, rfl, hRv, hpost, hSw, hU⟩
      refine ih (l.erase i) _ _ _ (by simpa using hls) (by rw [List.length_erase_of_mem hil]; omega) (fun j hj => ?_) ⟨hSw, (defers_put _ _ _).trans hI.defers, (size_put _ _ _).trans hI.size, fun t ht => (get_put_ne _ _ _ _ (ht i)).trans (hI.old t ht), fun j t hd hj => ?_, fun j hj => ?_, fun j hj => ?_, fun j o' e ho' hj he hb => ?_⟩
      · have hji : j ≠ i := fun e => by
          subst e
          rw [getD_set_same _ _ hisz] at hj; cases hj
        rw [getD_set_ne _ _ _ hji] at hj
        exact (List.mem_erase_of_ne hji).2 (hl j hj)
      · by_cases hji : j = i
        · subst hji
          rw [hd, at_put_same _ _ _ (by rw [hI.size, hn]; exact regOk_lt hok hd)]
          exact hRv
        · have hne : dstOf ops i ≠ some t := fun h => hji (regOk_ne hok hd h)
          rw [at_put_ne _ _ _ _ hne]
          rw [getD_set_ne _ _ _ hji] at hj
          exact hR i j _ _ _ hji (hI.vals j t hd hj) hI.world hSw hU
      · by_cases hji : j = i
        · subst hji; exact hpost
        · rw [getD_set_ne _ _ _ hji] at hj
          exact (hE i j _ _ hji hI.world hSw hU).2 (hI.posts j hj)
      · have hji : j ≠ i := fun e => by
          subst e
          rw [getD_set_same _ _ hisz] at hj; cases hj
        rw [getD_set_ne _ _ _ hji] at hj
        exact (hE i j _ _ hji hI.world hSw hU).1 (hI.pres j hj)
      · by_cases hei : e.on = i
        · rw [hei, getD_set_same _ _ hisz]
        · rw [getD_set_ne _ _ _ hei]
          by_cases hji : j = i
          · subst hji
            obtain rfl : o = o' := Option.some.inj (ho.symm.trans ho')
            exact haf e he hb
          · rw [getD_set_ne _ _ _ hji] at hj
            exact hI.closed j o' e ho' hj he hb
    · rcases hk with rfl | hk
      · exact hun'
      · exact hwait listed a w hI i hun' _ k hk

/-- What an operation's value has: it is x; it is a slice of a new block that holds cs; it has p (whatever the world); whatever. -/
def Spec.holdsN (N : Nat) : Spec → Value → World → Prop
  | .eq x, v, _ => v = x
  | .sl n c cs T, v, w => ∃ b, v = .slice (some ⟨b, 0, none⟩) n c ∧ N ≤ b ∧ Blk w b cs T
  | .any, _, _ => True
  | .wh c x, v, _ => c = true → v = x
  | .pt cs T, v, w => ∃ b, v = .pointer (some ⟨b, 0, none⟩) ∧ N ≤ b ∧ Blk w b cs T

theorem effOf_cases (E : List (Nat × Eff)) (i : Nat) : effOf E i = Eff.none ∨ (i, effOf E i) ∈ E := by
  induction E with
  | nil => exact .inl rfl
  | cons x r ih =>
    unfold effOf
    by_cases h : x.1 = i
    · rw [if_pos h]; exact .inr (by rw [← h]; exact List.mem_cons_self)
    · rw [if_neg h]
      exact ih.imp id (List.mem_cons_of_mem _)

/-- The region, by specs and effects. bs: all that is written; hE: what one operation finds, or leaves, no other one turns. -/
theorem wp_region_eff {id : Nat} (specs : List Spec) (E : List (Nat × Eff)) (bs : List Nat) {a0 : Act} {w0 : World} {n : Nat} (hm : P.follows .mixedOrders = true) (hok : regOk ops n = true) (hn : a0.tmps.size = n)
    (hbs : ∀ b ∈ bs, b < w0.heap.size) (hws : ∀ x ∈ E, ∀ b ∈ x.2.ws, b ∈ bs)
    (hE0 : ∀ x ∈ E, ∀ w w', Upd [] w w' → (x.2.pre w → x.2.pre w') ∧ (x.2.post w → x.2.post w'))
    (hE : ∀ x ∈ E, ∀ y ∈ E, x.1 ≠ y.1 → ∀ w w', Upd x.2.ws w w' → (y.2.pre w → y.2.pre w') ∧ (y.2.post w → y.2.post w'))
    (hpre : ∀ x ∈ E, x.2.pre w0.drew)
    (hstep : ∀ i o, ops[i]? = some o → ∀ a w, Upd bs w0 w → (∀ t v, notDst ops t = true → a0.tmps[t]? = some v → a.tmps[t]? = some v) → (∀ j, j ∈ needsOf o → (effOf E j).post w ∧ ∀ t, dstOf ops j = some t → (specs.getD j .any).holdsN w0.heap.size (at_ a t) w) →
      (∀ k, k = i ∨ waitsOn ops ops.size k i = true → (effOf E k).pre w) →
      ∀ K' : Act → World → Prop, (∀ v w', (specs.getD i .any).holdsN w0.heap.size v w' → (effOf E i).post w' → Upd (effOf E i).ws w w' → K' (a.put o.dst v) w') → if Region.wanted o (yielded ops a.tmps) = true then Oper.wp P o a w K' Q else K' (a.put o.dst undef) w)
    (hfin : ∀ a w, Upd bs w0 w → a.tmps.size = n → a.defers = a0.defers → (∀ t v, notDst ops t = true → a0.tmps[t]? = some v → a.tmps[t]? = some v) → (∀ j t, dstOf ops j = some t → (specs.getD j .any).holdsN w0.heap.size (at_ a t) w) → (∀ i, i < ops.size → (effOf E i).post w) → Q .normal a w) :
    (Code.region id ops true).wp P Q a0 w0 := by
  have hsub : ∀ i, ∀ b ∈ (effOf E i).ws, b ∈ bs := fun i b hb => by
    rcases effOf_cases E i with h | h
    · rw [h] at hb; cases hb
    · exact hws _ h b hb
  have hEE : ∀ i k w w', k ≠ i → Upd (effOf E i).ws w w' → ((effOf E k).pre w → (effOf E k).pre w') ∧ ((effOf E k).post w → (effOf E k).post w') := fun i k w w' hki hU => by
    rcases effOf_cases E k with h | h
    · rw [h]; exact ⟨fun _ => trivial, fun _ => trivial⟩
    · rcases effOf_cases E i with h' | h'
      · rw [h'] at hU; exact hE0 _ h w w' hU
      · exact hE _ h' _ h (fun e => hki e.symm) w w' hU
  refine wp_region_any hm (wpAny_rew (S := Upd bs w0) (R := fun i => (specs.getD i .any).holdsN w0.heap.size) (E := E) hok hn ?_ (fun i k w w' hki _ _ hU => hEE i k w w' hki hU) ?_ ?_ ops.size (List.range ops.size) _ _ _ (by simp) (by simp) (fun i hi => by
    by_cases h : i < ops.size
    · exact List.mem_range.2 h
    · simp [Array.getD, h] at hi) ⟨(Upd.refl bs w0).drew, rfl, rfl, fun _ _ => rfl, fun i t hd hi => by
      exfalso
      by_cases h : i < ops.size <;> simp [Array.getD, h] at hi, fun i hi => by
      exfalso
      by_cases h : i < ops.size <;> simp [Array.getD, h] at hi, fun i _ => by
      rcases effOf_cases E i with h | h
      · rw [h]; trivial
      · exact hpre _ h, fun i o e ho hi he hb => by
      exfalso
      by_cases h : i < ops.size <;> simp [Array.getD, h] at hi⟩)
  · intro i k v w w' hki hv hS hS' hU
    have : ∀ s : Spec, s.holdsN w0.heap.size v w → s.holdsN w0.heap.size v w' := fun s hs => by
      cases s with
      | eq x => exact hs
      | sl n c cs T =>
        obtain ⟨b, h1, h2, h3⟩ := hs
        exact ⟨b, h1, h2, h3.upd hU (fun hb => by have := hbs _ (hsub i b hb); omega)⟩
      | any => trivial
      | wh c x => exact hs
      | pt cs T =>
        obtain ⟨b, h1, h2, h3⟩ := hs
        exact ⟨b, h1, h2, h3.upd hU (fun hb => by have := hbs _ (hsub i b hb); omega)⟩
    exact this _ hv
  · intro i o ho a w hS hold hneed hun
    refine wpOp_step ho (fun K' hK => hstep i o ho a w hS (fun t v ht hv => (hold t (notDst_spec ht)).trans hv) (fun j hj => ?_) hun K' (fun v w' hv hp hu => ?_))
    · unfold needsOf at hj
      rw [List.mem_filterMap] at hj
      obtain ⟨e, he, hif⟩ := hj
      split at hif
      · rename_i hb
        simp only [Option.some.injEq] at hif
        subst hif
        exact hneed e (by simpa using he) hb
      · cases hif
    · refine hK _ _ ⟨v, ?_, hv, hp, hS.trans hu (fun b hb => Or.inl (hsub i b hb)), hu⟩
      unfold dstOf; rw [ho]; rfl
  · intro a w hS hdf hsz hold hvals hposts
    exact hfin a w hS (hsz.trans hn) hdf (fun t v ht hv => (hold t (notDst_spec ht)).trans hv) hvals hposts

/-- An operation that writes block b, which held old, and then holds new. -/
structure BE where
  i : Nat
  b : Nat
  old : List Value
  new : List Value
  T : TypeId
def BE.eff (x : BE) : Nat × Eff := (x.i, ⟨[x.b], fun w => Blk w x.b x.old x.T, fun w => Blk w x.b x.new x.T⟩)

/-- The region, where what is written are whole blocks that are known, each by one operation. -/
theorem wp_region_blk {id : Nat} (specs : List Spec) (E : List BE) {a0 : Act} {w0 : World} {n : Nat} (hm : P.follows .mixedOrders = true) (hok : regOk ops n = true) (hn : a0.tmps.size = n)
    (hne : ∀ x ∈ E, ∀ y ∈ E, x.i ≠ y.i → x.b ≠ y.b) (hpre : ∀ x ∈ E, Blk w0 x.b x.old x.T)
    (hstep : ∀ i o, ops[i]? = some o → ∀ a w, Upd (E.map (·.b)) w0 w → (∀ t v, notDst ops t = true → a0.tmps[t]? = some v → a.tmps[t]? = some v) → (∀ j, j ∈ needsOf o → (effOf (E.map BE.eff) j).post w ∧ ∀ t, dstOf ops j = some t → (specs.getD j .any).holdsN w0.heap.size (at_ a t) w) →
      (∀ k, k = i ∨ waitsOn ops ops.size k i = true → (effOf (E.map BE.eff) k).pre w) →
      ∀ K' : Act → World → Prop, (∀ v w', (specs.getD i .any).holdsN w0.heap.size v w' → (effOf (E.map BE.eff) i).post w' → Upd (effOf (E.map BE.eff) i).ws w w' → K' (a.put o.dst v) w') → if Region.wanted o (yielded ops a.tmps) = true then Oper.wp P o a w K' Q else K' (a.put o.dst undef) w)
    (hfin : ∀ a w, Upd (E.map (·.b)) w0 w → a.tmps.size = n → a.defers = a0.defers → (∀ t v, notDst ops t = true → a0.tmps[t]? = some v → a.tmps[t]? = some v) → (∀ j t, dstOf ops j = some t → (specs.getD j .any).holdsN w0.heap.size (at_ a t) w) → (∀ i, i < ops.size → (effOf (E.map BE.eff) i).post w) → Q .normal a w) :
    (Code.region id ops true).wp P Q a0 w0 := by
  refine wp_region_eff specs (E.map BE.eff) (E.map (·.b)) hm hok hn ?_ ?_ ?_ ?_ ?_ hstep hfin
  · intro b hb
    obtain ⟨x, hx, rfl⟩ := List.mem_map.1 hb
    exact (hpre x hx).lt
  · intro y hy b hb
    obtain ⟨x, hx, rfl⟩ := List.mem_map.1 hy
    obtain rfl : b = x.b := by simpa [BE.eff] using hb
    exact List.mem_map.2 ⟨x, hx, rfl⟩
  · intro y hy w w' hU
    obtain ⟨x, hx, rfl⟩ := List.mem_map.1 hy
    exact ⟨fun h => h.upd_nil hU, fun h => h.upd_nil hU⟩
  · intro y1 hy1 y2 hy2 hne' w w' hU
    obtain ⟨x1, hx1, rfl⟩ := List.mem_map.1 hy1
    obtain ⟨x2, hx2, rfl⟩ := List.mem_map.1 hy2
    have h12 := hne x1 hx1 x2 hx2 hne'
    have hb : x2.b ∉ x1.eff.2.ws := by simp [BE.eff]; exact fun e => h12 e.symm
    exact ⟨fun h => Blk.upd h hU hb, fun h => Blk.upd h hU hb⟩
  · intro y hy
    obtain ⟨x, hx, rfl⟩ := List.mem_map.1 hy
    exact (hpre x hx).drew

end Go.Proofs.Ytppbaahaegmgeaa

/- A region that draws its order, but whose last operations stand in one order: the first by what each value has, and what each writing operation finds and leaves; the last walked. No program in sight. -/
namespace Go.Proofs.Ytppbaahaegmgeaa
open Go

variable {P : Program} {ops : Array Oper} {Q : Exit → Act → World → Prop}

/-- No operation of the first m yields into t. -/
def notDstTo (ops : Array Oper) (m t : Nat) : Bool := (List.range m).all fun i => dstOf ops i != some t
theorem notDstTo_spec {m t : Nat} (h : notDstTo ops m t = true) : ∀ i, i < m → dstOf ops i ≠ some t := by
  intro i hm hi
  unfold notDstTo at h
  rw [List.all_eq_true] at h
  have := h i (List.mem_range.2 hm)
  rw [hi] at this
  simp at this

/-- The block at which a value points. -/
def blkOf : Value → Option Nat
  | .pointer (some a) => some a.block
  | _ => none
def Spec.isPt : Spec → Bool
  | .pt _ _ => true
  | _ => false
/-- What an operation's value has when it is made, out of world w. -/
def Spec.made (N : Nat) (w : World) : Spec → Value → World → Prop
  | .pt cs T, v, w' => ∃ b, v = .pointer (some ⟨b, 0, none⟩) ∧ w.heap.size ≤ b ∧ Blk w' b cs T
  | s, v, w' => s.holdsN N v w'
theorem Spec.made_holds {N : Nat} {w w' : World} {s : Spec} {v : Value} (hN : N ≤ w.heap.size) (h : s.made N w v w') : s.holdsN N v w' := by
  cases s with
  | pt cs T => obtain ⟨b, h1, h2, h3⟩ := h; exact ⟨b, h1, by omega, h3⟩
  | _ => exact h

structure RehInv (ops : Array Oper) (m : Nat) (D : Nat → Bool) (S : World → Prop) (R : Nat → Value → World → Prop) (E : List (Nat × Eff)) (a0 : Act) (listed : Array Bool) (a : Act) (w : World) : Prop where
  world : S w
  defers : a.defers = a0.defers
  size : a.tmps.size = a0.tmps.size
  old : ∀ t, (∀ i, i < m → dstOf ops i ≠ some t) → a.tmps[t]? = a0.tmps[t]?
  vals : ∀ i t, i < m → dstOf ops i = some t → listed.getD i false = true → R i (at_ a t) w
  posts : ∀ i, i < m → listed.getD i false = true → (effOf E i).post w
  pres : ∀ i, listed.getD i false = false → (effOf E i).pre w
  closed : ∀ i o e, ops[i]? = some o → listed.getD i false = true → e ∈ o.after → Region.binds .any e = true → listed.getD e.on false = true
  tail : ∀ i, m ≤ i → listed.getD i false = false
  aloof : ∀ i j t u, i < m → j < m → i ≠ j → D i = true → D j = true → dstOf ops i = some t → dstOf ops j = some u → listed.getD i false = true → listed.getD j false = true → blkOf (at_ a t) ≠ blkOf (at_ a u)

def RehStep (P : Program) (ops : Array Oper) (D : Nat → Bool) (Q : Exit → Act → World → Prop) (S : World → Prop) (R : Nat → Value → World → Prop) (E : List (Nat × Eff)) (i : Nat) (a : Act) (w : World) : Prop :=
  wpOp P ops Q i (fun a' w' => ∃ v, a' = a.put (dstOf ops i) v ∧ R i v w' ∧ (D i = true → ∃ b, blkOf v = some b ∧ w.heap.size ≤ b) ∧ (effOf E i).post w' ∧ S w' ∧ Upd (effOf E i).ws w w') a w

/-- Each of the last operations waits for all the first ones; they stand in one order. -/
def tailOk (ops : Array Oper) (m : Nat) : Bool :=
  decide (m < ops.size) && ((List.range ops.size).all fun k => decide (k < m) || (List.range m).all fun i => waitsOn ops ops.size k i) &&
    Region.seqB .any ops (ops.size - m) m ((List.range ops.size).map fun i => decide (i < m)).toArray

theorem wpAny_reh {D : Nat → Bool} {S : World → Prop} {R : Nat → Value → World → Prop} {E : List (Nat × Eff)} {a0 : Act} {n m : Nat} (hok : regOk ops n = true) (htl : tailOk ops m = true) (hn : a0.tmps.size = n)
    (hR : ∀ i k v w w', k ≠ i → R k v w → S w → S w' → Upd (effOf E i).ws w w' → R k v w')
    (hD : ∀ i v w, D i = true → R i v w → ∃ b, blkOf v = some b ∧ b < w.heap.size)
    (hE : ∀ i k w w', k ≠ i → S w → S w' → Upd (effOf E i).ws w w' → ((effOf E k).pre w → (effOf E k).pre w') ∧ ((effOf E k).post w → (effOf E k).post w'))
    (hstep : ∀ i o, i < m → ops[i]? = some o → ∀ a w, S w → (∀ t, (∀ i, i < m → dstOf ops i ≠ some t) → a.tmps[t]? = a0.tmps[t]?) → (∀ e ∈ o.after, Region.binds .any e = true → (effOf E e.on).post w ∧ ∀ t, dstOf ops e.on = some t → R e.on (at_ a t) w) →
      (∀ k, k = i ∨ waitsOn ops ops.size k i = true → (effOf E k).pre w) → RehStep P ops D Q S R E i a w)
    (hfin : ∀ a w, S w → a.defers = a0.defers → a.tmps.size = a0.tmps.size → (∀ t, (∀ i, i < m → dstOf ops i ≠ some t) → a.tmps[t]? = a0.tmps[t]?) → (∀ i t, i < m → dstOf ops i = some t → R i (at_ a t) w) → (∀ i, i < m → (effOf E i).post w) → (∀ i j t u, i < m → j < m → i ≠ j → D i = true → D j = true → dstOf ops i = some t → dstOf ops j = some u → blkOf (at_ a t) ≠ blkOf (at_ a u)) → wpList P ops Q (ops.toList.drop m) a w) :
    ∀ (r : Nat) (l : List Nat) (listed : Array Bool) (a : Act) (w : World), listed.size = ops.size → l.length = r → l.Nodup → (∀ i, i ∈ l ↔ i < m ∧ listed.getD i true = false) → RehInv ops m D S R E a0 listed a w → wpAny P .any ops Q (r + (ops.size - m)) listed a w := by
  unfold tailOk at htl
  simp only [Bool.and_eq_true, decide_eq_true_eq] at htl
  obtain ⟨⟨hm, hwt⟩, hsq⟩ := htl
  have htw : ∀ k i, m ≤ k → k < ops.size → i < m → waitsOn ops ops.size k i = true := fun k i h1 h2 h3 => by
    have := List.all_eq_true.1 hwt k (List.mem_range.2 h2)
    rw [Bool.or_eq_true, decide_eq_true_eq] at this
    rcases this with h | h
    · omega
    · exact List.all_eq_true.1 h i (List.mem_range.2 h3)
  have hwait : ∀ (listed : Array Bool) (a : Act) (w : World), RehInv ops m D S R E a0 listed a w → ∀ i, listed.getD i false = false → ∀ f k, waitsOn ops f k i = true → listed.getD k false = false := by
    intro listed a w hI i hi f
    induction f with
    | zero => intro k hk; simp [waitsOn] at hk
    | succ f ihf =>
      intro k hk
      unfold waitsOn at hk
      cases ho : ops[k]? with
      | none => rw [ho] at hk; cases hk
      | some o =>
        rw [ho] at hk
        dsimp only at hk
        rw [Array.any_eq_true'] at hk
        obtain ⟨e, he, hb⟩ := hk
        rw [Bool.and_eq_true, Bool.or_eq_true] at hb
        cases hc : listed.getD k false with
        | false => rfl
        | true =>
          have h2 := hI.closed k o e ho hc he hb.1
          rcases hb.2 with h3 | h3
          · rw [beq_iff_eq] at h3; rw [h3, hi] at h2; cases h2
          · rw [ihf e.on h3] at h2; cases h2
  intro r
  induction r with
  | zero =>
    intro l listed a w hls hll hnd hl hI
    obtain rfl : l = [] := List.eq_nil_of_length_eq_zero hll
    have hall : ∀ i, i < m → listed.getD i true = true := fun i hi => by
      cases h : listed.getD i true with
      | true => rfl
      | false => exact absurd ((hl i).2 ⟨hi, h⟩) (by simp)
    have hlit : listed = ((List.range ops.size).map fun i => decide (i < m)).toArray := by
      apply Array.ext
      · simpa using hls
      · intro i h1 h2
        have hi : i < ops.size := by omega
        simp only [List.getElem_toArray, List.getElem_map, List.getElem_range]
        by_cases him : i < m
        · have := hall i him
          simp only [Array.getD, h1, dif_pos] at this
          rw [decide_eq_true him]; exact this
        · have := hI.tail i (by omega)
          simp only [Array.getD, h1, dif_pos] at this
          rw [decide_eq_false him]; exact this
    have hw := hfin a w hI.world hI.defers hI.size hI.old (fun i t hi hd => hI.vals i t hi hd (by rw [getD_ff _ _ (by omega) _ true]; exact hall i hi)) (fun i hi => hI.posts i hi (by rw [getD_ff _ _ (by omega) _ true]; exact hall i hi)) (fun i j t u hi hj hij di dj ti uj => hI.aloof i j t u hi hj hij di dj ti uj (by rw [getD_ff _ _ (by omega) _ true]; exact hall i hi) (by rw [getD_ff _ _ (by omega) _ true]; exact hall j hj))
    have hlen : (ops.toList.drop m).length = ops.size - m := by simp
    have := wpAny_of_seq (md := .any) (Q' := Q) (ops.toList.drop m) m listed a w (fun j => by simp [List.getElem?_drop]) (by rw [hlen, hlit]; exact hsq) hw
    rw [hlen] at this
    rw [Nat.zero_add]; exact this
  | succ r ih =>
    intro l listed a w hls hll hnd hl hI
    rw [show r + 1 + (ops.size - m) = (r + (ops.size - m)) + 1 by omega]
    have hex : ∃ i, i < m ∧ listed.getD i true = false := by
      cases l with
      | nil => simp at hll
      | cons i l => exact ⟨i, (hl i).1 List.mem_cons_self⟩
    refine ⟨fun hr => ?_, fun i hi => ?_⟩
    · exfalso
      obtain ⟨i0, hi0, hu0⟩ := hex
      have key : ∀ i, i < m → listed.getD i true = true := by
        intro i
        induction i using Nat.strongRecOn with
        | ind i ih2 =>
          intro hi
          by_cases hl2 : listed.getD i true = true
          · exact hl2
          · exfalso
            have hl' : listed.getD i true = false := by simpa using hl2
            have ho : ops[i]? = some ops[i] := Array.getElem?_eq_getElem (by omega)
            have : i ∈ Region.ready .any ops listed := mem_ready.2 ⟨hl', ops[i], ho, fun e he hb => by
              have hlt := regOk_after hok ho he hb
              have h2 := ih2 e.on hlt (by omega)
              rw [getD_ff _ _ (by omega) _ true]; exact h2⟩
            rw [hr] at this
            cases this
      rw [key i0 hi0] at hu0; cases hu0
    · obtain ⟨hun, o, ho, haf⟩ := mem_ready.1 hi
      have hios : i < ops.size := (Array.getElem?_eq_some_iff.1 ho).1
      have hisz : i < listed.size := by omega
      have hun' : listed.getD i false = false := by rw [getD_ff _ _ hisz _ true]; exact hun
      have him : i < m := by
        rcases Nat.lt_or_ge i m with h | h
        · exact h
        · exfalso
          obtain ⟨i0, hi0, hu0⟩ := hex
          have hu0' : listed.getD i0 false = false := by rw [getD_ff _ _ (by omega) _ true]; exact hu0
          have hw := htw i i0 h hios hi0
          obtain ⟨f, hf⟩ : ∃ f, ops.size = f + 1 := ⟨ops.size - 1, by omega⟩
          rw [hf] at hw
          unfold waitsOn at hw
          rw [ho] at hw
          dsimp only at hw
          rw [Array.any_eq_true'] at hw
          obtain ⟨e, he, hb⟩ := hw
          rw [Bool.and_eq_true, Bool.or_eq_true] at hb
          have h2 := haf e he hb.1
          rcases hb.2 with h3 | h3
          · rw [beq_iff_eq] at h3; rw [h3, hu0'] at h2; cases h2
          · rw [hwait listed a w hI i0 hu0' f e.on h3] at h2; cases h2
      have hil : i ∈ l := (hl i).2 ⟨him, hun⟩
      refine wpOp_mono ?_ (hstep i o him ho a w hI.world hI.old (fun e he hb => ?_) (fun k hk => hI.pres k ?_))
      · rintro a' w' ⟨v, rfl, hRv, hfr, hpost, hSw, hU⟩
        refine ih (l.erase i) _ _ _ (by simpa using hls) (by rw [List.length_erase_of_mem hil]; omega) (hnd.erase i) (fun j => ?_) ⟨hSw, (defers_put _ _ _).trans hI.defers, (size_put _ _ _).trans hI.size, fun t ht => (get_put_ne _ _ _ _ (ht i him)).trans (hI.old t ht), fun j t hjm hd hj => ?_, fun j hjm hj => ?_, fun j hj => ?_, fun j o' e ho' hj he hb => ?_, fun j hj => ?_, fun j k t u hj hk hjk dj dk tj uk lj lk => ?_⟩
        · rw [hnd.mem_erase_iff, hl j]
          by_cases hji : j = i
          · subst hji
            rw [getD_set_same _ _ hisz]
            simp
          · rw [getD_set_ne _ _ _ hji]
            simp [hji]
        · by_cases hji : j = i
          · subst hji
            rw [hd, at_put_same _ _ _ (by rw [hI.size, hn]; exact regOk_lt hok hd)]
            exact hRv
          · have hne : dstOf ops i ≠ some t := fun h => hji (regOk_ne hok hd h)
            rw [at_put_ne _ _ _ _ hne]
            rw [getD_set_ne _ _ _ hji] at hj
            exact hR i j _ _ _ hji (hI.vals j t hjm hd hj) hI.world hSw hU
        · by_cases hji : j = i
          · subst hji; exact hpost
          · rw [getD_set_ne _ _ _ hji] at hj
            exact (hE i j _ _ hji hI.world hSw hU).2 (hI.posts j hjm hj)
        · have hji : j ≠ i := fun e => by
            subst e
            rw [getD_set_same _ _ hisz] at hj; cases hj
          rw [getD_set_ne _ _ _ hji] at hj
          exact (hE i j _ _ hji hI.world hSw hU).1 (hI.pres j hj)
        · by_cases hei : e.on = i
          · rw [hei, getD_set_same _ _ hisz]
          · rw [getD_set_ne _ _ _ hei]
            by_cases hji : j = i
            · subst hji
              obtain rfl : o = o' := Option.some.inj (ho.symm.trans ho')
              exact haf e he hb
            · rw [getD_set_ne _ _ _ hji] at hj
              exact hI.closed j o' e ho' hj he hb
        · rw [getD_set_ne _ _ _ (by omega)]
          exact hI.tail j hj
        · by_cases hji : j = i
          · subst hji
            have hki : k ≠ j := fun e => hjk e.symm
            rw [getD_set_ne _ _ _ hki] at lk
            have hne : dstOf ops j ≠ some u := fun h => hki (regOk_ne hok uk h)
            rw [at_put_ne _ _ _ _ hne, tj, at_put_same _ _ _ (by rw [hI.size, hn]; exact regOk_lt hok tj)]
            obtain ⟨b, h1, h2⟩ := hfr dj
            obtain ⟨c, h3, h4⟩ := hD k _ _ dk (hI.vals k u hk uk lk)
            rw [h1, h3]
            intro e
            have := Option.some.inj e
            omega
          · rw [getD_set_ne _ _ _ hji] at lj
            have hnj : dstOf ops i ≠ some t := fun h => hji (regOk_ne hok tj h)
            by_cases hki : k = i
            · subst hki
              rw [at_put_ne _ _ _ _ hnj, uk, at_put_same _ _ _ (by rw [hI.size, hn]; exact regOk_lt hok uk)]
              obtain ⟨b, h1, h2⟩ := hfr dk
              obtain ⟨c, h3, h4⟩ := hD j _ _ dj (hI.vals j t hj tj lj)
              rw [h1, h3]
              intro e
              have := Option.some.inj e
              omega
            · rw [getD_set_ne _ _ _ hki] at lk
              have hnk : dstOf ops i ≠ some u := fun h => hki (regOk_ne hok uk h)
              rw [at_put_ne _ _ _ _ hnj, at_put_ne _ _ _ _ hnk]
              exact hI.aloof j k t u hj hk hjk dj dk tj uk lj lk
      · have hlt := regOk_after hok ho he hb
        exact ⟨hI.posts e.on (by omega) (haf e he hb), fun t hd => hI.vals e.on t (by omega) hd (haf e he hb)⟩
      · rcases hk with rfl | hk
        · exact hun'
        · exact hwait listed a w hI i hun' _ k hk

/-- The region, by specs and effects of the first m operations. -/
theorem wp_region_head {id : Nat} (m : Nat) (specs : List Spec) (E : List BE) {a0 : Act} {w0 : World} {n : Nat} (hm : P.follows .mixedOrders = true) (hok : regOk ops n = true) (htl : tailOk ops m = true) (hn : a0.tmps.size = n)
    (hne : ∀ x ∈ E, ∀ y ∈ E, x.i ≠ y.i → x.b ≠ y.b) (hpre : ∀ x ∈ E, Blk w0 x.b x.old x.T)
    (hstep : ∀ i o, i < m → ops[i]? = some o → ∀ a w, Upd (E.map (·.b)) w0 w → (∀ t v, notDstTo ops m t = true → a0.tmps[t]? = some v → a.tmps[t]? = some v) → (∀ j, j ∈ needsOf o → (effOf (E.map BE.eff) j).post w ∧ ∀ t, dstOf ops j = some t → (specs.getD j .any).holdsN w0.heap.size (at_ a t) w) →
      (∀ k, k = i ∨ waitsOn ops ops.size k i = true → (effOf (E.map BE.eff) k).pre w) →
      ∀ K' : Act → World → Prop, (∀ v w', (specs.getD i .any).made w0.heap.size w v w' → (effOf (E.map BE.eff) i).post w' → Upd (effOf (E.map BE.eff) i).ws w w' → K' (a.put o.dst v) w') → if Region.wanted o (yielded ops a.tmps) = true then Oper.wp P o a w K' Q else K' (a.put o.dst undef) w)
    (hfin : ∀ a w, Upd (E.map (·.b)) w0 w → a.tmps.size = n → a.defers = a0.defers → (∀ t v, notDstTo ops m t = true → a0.tmps[t]? = some v → a.tmps[t]? = some v) → (∀ j t, j < m → dstOf ops j = some t → (specs.getD j .any).holdsN w0.heap.size (at_ a t) w) → (∀ i, i < m → (effOf (E.map BE.eff) i).post w) → (∀ i j t u, i < m → j < m → i ≠ j → (specs.getD i .any).isPt = true → (specs.getD j .any).isPt = true → dstOf ops i = some t → dstOf ops j = some u → blkOf (at_ a t) ≠ blkOf (at_ a u)) → wpList P ops Q (ops.toList.drop m) a w) :
    (Code.region id ops true).wp P Q a0 w0 := by
  have hbs : ∀ b ∈ E.map (·.b), b < w0.heap.size := by
    intro b hb
    obtain ⟨x, hx, rfl⟩ := List.mem_map.1 hb
    exact (hpre x hx).lt
  have hsub : ∀ i, ∀ b ∈ (effOf (E.map BE.eff) i).ws, b ∈ E.map (·.b) := fun i b hb => by
    rcases effOf_cases (E.map BE.eff) i with h | h
    · rw [h] at hb; cases hb
    · obtain ⟨x, hx, hxe⟩ := List.mem_map.1 h
      rw [← (Prod.mk.inj hxe).2] at hb
      obtain rfl : b = x.b := by simpa [BE.eff] using hb
      exact List.mem_map.2 ⟨x, hx, rfl⟩
  have hEE : ∀ i k w w', k ≠ i → Upd (effOf (E.map BE.eff) i).ws w w' → ((effOf (E.map BE.eff) k).pre w → (effOf (E.map BE.eff) k).pre w') ∧ ((effOf (E.map BE.eff) k).post w → (effOf (E.map BE.eff) k).post w') := fun i k w w' hki hU => by
    rcases effOf_cases (E.map BE.eff) k with h | h
    · rw [h]; exact ⟨fun _ => trivial, fun _ => trivial⟩
    · obtain ⟨x, hx, hxe⟩ := List.mem_map.1 h
      have hxe2 := Prod.mk.inj hxe
      rw [← hxe2.2]
      rcases effOf_cases (E.map BE.eff) i with h' | h'
      · rw [h'] at hU
        exact ⟨fun h => Blk.upd_nil h hU, fun h => Blk.upd_nil h hU⟩
      · obtain ⟨y, hy, hye⟩ := List.mem_map.1 h'
        have hye2 := Prod.mk.inj hye
        rw [← hye2.2] at hU
        have hxy : x.b ≠ y.b := hne x hx y hy (fun e => hki (by rw [← hxe2.1, ← hye2.1]; exact e))
        have hb : x.b ∉ y.eff.2.ws := by simp [BE.eff]; exact hxy
        exact ⟨fun h => Blk.upd h hU hb, fun h => Blk.upd h hU hb⟩
  have hms : m < ops.size := by
    unfold tailOk at htl
    simp only [Bool.and_eq_true, decide_eq_true_eq] at htl
    exact htl.1.1
  refine wp_region_any hm ?_
  have := wpAny_reh (P := P) (Q := Q) (D := fun i => (specs.getD i .any).isPt) (S := Upd (E.map (·.b)) w0) (R := fun i => (specs.getD i .any).holdsN w0.heap.size) (E := E.map BE.eff) (a0 := a0) hok htl hn ?_ ?_ (fun i k w w' hki _ _ hU => hEE i k w w' hki hU) ?_ ?_ m (List.range m) (Array.replicate ops.size false) a0 w0.drew (by simp) (by simp) List.nodup_range (fun i => by
    rw [List.mem_range]
    constructor
    · intro h; exact ⟨h, by simp [Array.getD]; omega⟩
    · exact fun h => h.1) ⟨(Upd.refl _ w0).drew, rfl, rfl, fun _ _ => rfl, fun i t _ hd hi => by
      exfalso
      by_cases h : i < ops.size <;> simp [Array.getD, h] at hi, fun i _ hi => by
      exfalso
      by_cases h : i < ops.size <;> simp [Array.getD, h] at hi, fun i _ => by
      rcases effOf_cases (E.map BE.eff) i with h | h
      · rw [h]; trivial
      · obtain ⟨x, hx, hxe⟩ := List.mem_map.1 h
        rw [← (Prod.mk.inj hxe).2]
        exact (hpre x hx).drew, fun i o e ho hi he hb => by
      exfalso
      by_cases h : i < ops.size <;> simp [Array.getD, h] at hi, fun i _ => by
      by_cases h : i < ops.size <;> simp [Array.getD, h], fun i j t u _ _ _ _ _ _ _ hi _ => by
      exfalso
      by_cases h : i < ops.size <;> simp [Array.getD, h] at hi⟩
  · rw [show m + (ops.size - m) = ops.size by omega] at this
    exact this
  · intro i k v w w' hki hv hS hS' hU
    have : ∀ s : Spec, s.holdsN w0.heap.size v w → s.holdsN w0.heap.size v w' := fun s hs => by
      cases s with
      | eq x => exact hs
      | sl n c cs T =>
        obtain ⟨b, h1, h2, h3⟩ := hs
        exact ⟨b, h1, h2, h3.upd hU (fun hb => by have := hbs _ (hsub i b hb); omega)⟩
      | any => trivial
      | wh c x => exact hs
      | pt cs T =>
        obtain ⟨b, h1, h2, h3⟩ := hs
        exact ⟨b, h1, h2, h3.upd hU (fun hb => by have := hbs _ (hsub i b hb); omega)⟩
    exact this _ hv
  · intro i v w hd hv
    try dsimp only at hd hv
    generalize specs.getD i .any = s at hd hv
    cases s with
    | pt cs T =>
      obtain ⟨b, rfl, _, h3⟩ := hv
      exact ⟨b, rfl, h3.lt⟩
    | _ => cases hd
  · intro i o him ho a w hS hold hneed hun
    refine wpOp_step ho (fun K' hK => hstep i o him ho a w hS (fun t v ht hv => (hold t (notDstTo_spec ht)).trans hv) (fun j hj => ?_) hun K' (fun v w' hv hp hu => ?_))
    · unfold needsOf at hj
      rw [List.mem_filterMap] at hj
      obtain ⟨e, he, hif⟩ := hj
      split at hif
      · rename_i hb
        simp only [Option.some.injEq] at hif
        subst hif
        exact hneed e (by simpa using he) hb
      · cases hif
    · refine hK _ _ ⟨v, ?_, Spec.made_holds hS.size hv, fun hd => ?_, hp, hS.trans hu (fun b hb => Or.inl (hsub i b hb)), hu⟩
      · unfold dstOf; rw [ho]; rfl
      · dsimp only at hd
        generalize specs.getD i .any = s at hd hv
        cases s with
        | pt cs T =>
          obtain ⟨b, rfl, h2, _⟩ := hv
          exact ⟨b, rfl, h2⟩
        | _ => cases hd
  · intro a w hS hdf hsz hold hvals hposts hap
    exact hfin a w hS (hsz.trans hn) hdf (fun t v ht hv => (hold t (notDstTo_spec ht)).trans hv) hvals hposts hap

end Go.Proofs.Ytppbaahaegmgeaa

/- As Reg, for a region one of whose operations grows a row of the region's own, perhaps in place. No program in sight. -/
namespace Go.Proofs.Ytppbaahaegmgeaa
open Go

variable {P : Program} {ops : Array Oper} {Q : Exit → Act → World → Prop}

/-- One operation's step: what it yields has R. -/
def StepOkU (P : Program) (ops : Array Oper) (Q : Exit → Act → World → Prop) (S : World → Prop) (R : Nat → Value → World → Prop) (U : Nat → World → World → Prop) (i : Nat) (a : Act) (w : World) : Prop :=
  wpOp P ops Q i (fun a' w' => ∃ v, a' = a.put (dstOf ops i) v ∧ R i v w' ∧ S w' ∧ U i w w') a w

theorem wpAny_invU {S : World → Prop} {R : Nat → Value → World → Prop} {U : Nat → World → World → Prop} {a0 : Act} {n : Nat} (hok : regOk ops n = true) (hn : a0.tmps.size = n)
    (hR : ∀ i k v w w', k ≠ i → R k v w → S w → S w' → U i w w' → R k v w')
    (hstep : ∀ i o, ops[i]? = some o → ∀ a w, S w → (∀ t, (∀ i, dstOf ops i ≠ some t) → a.tmps[t]? = a0.tmps[t]?) → (∀ e ∈ o.after, Region.binds .any e = true → ∀ t, dstOf ops e.on = some t → R e.on (at_ a t) w) → StepOkU P ops Q S R U i a w)
    (hfin : ∀ a w, S w → a.defers = a0.defers → a.tmps.size = a0.tmps.size → (∀ t, (∀ i, dstOf ops i ≠ some t) → a.tmps[t]? = a0.tmps[t]?) → (∀ i t, dstOf ops i = some t → R i (at_ a t) w) → Q .normal a w) :
    ∀ (fuel : Nat) (l : List Nat) (listed : Array Bool) (a : Act) (w : World), listed.size = ops.size → l.length ≤ fuel → (∀ i, listed.getD i true = false → i ∈ l) → RegInv ops S R a0 listed a w → wpAny P .any ops Q fuel listed a w := by
  have fin : ∀ (listed : Array Bool) (a : Act) (w : World), listed.size = ops.size → RegInv ops S R a0 listed a w → Region.ready .any ops listed = [] → Q .normal a w := by
    intro listed a w hls hI hr
    have hall : ∀ i, i < ops.size → listed.getD i true = true := by
      intro i
      induction i using Nat.strongRecOn with
      | ind i ih =>
        intro hi
        by_cases hl : listed.getD i true = true
        · exact hl
        · exfalso
          have hl' : listed.getD i true = false := by simpa using hl
          have ho : ops[i]? = some ops[i] := Array.getElem?_eq_getElem hi
          have : i ∈ Region.ready .any ops listed := mem_ready.2 ⟨hl', ops[i], ho, fun e he hb => by
            have hlt := regOk_after hok ho he hb
            have h2 := ih e.on hlt (by omega)
            have hes : e.on < listed.size := by omega
            simp only [Array.getD, hes, dif_pos] at h2 ⊢
            exact h2⟩
          rw [hr] at this
          cases this
    refine hfin a w hI.world hI.defers hI.size hI.old (fun i t hd => hI.vals i t hd ?_)
    have hi : i < ops.size := by
      unfold dstOf at hd
      rcases Nat.lt_or_ge i ops.size with h | h
      · exact h
      · rw [Array.getElem?_eq_none h] at hd; cases hd
    have h2 := hall i hi
    have hes : i < listed.size := by omega
    simp only [Array.getD, hes, dif_pos] at h2 ⊢
    exact h2
  intro fuel
  induction fuel with
  | zero =>
    intro l listed a w hls hll hl hI
    have hr : Region.ready .any ops listed = [] := by
      apply List.eq_nil_iff_forall_not_mem.2
      intro i hi
      have := hl i (mem_ready.1 hi).1
      have : l = [] := List.eq_nil_of_length_eq_zero (by omega)
      subst this
      simp_all
    exact ⟨hr, fin listed a w hls hI hr⟩
  | succ fuel ih =>
    intro l listed a w hls hll hl hI
    refine ⟨fin listed a w hls hI, fun i hi => ?_⟩
    obtain ⟨hun, o, ho, haf⟩ := mem_ready.1 hi
    have hil : i ∈ l := hl i hun
    have hisz : i < listed.size := by
      have := (Array.getElem?_eq_some_iff.1 ho).1
      omega
    refine wpOp_mono ?_ (hstep i o ho a w hI.world hI.old (fun e he hb t hd => hI.vals e.on t hd (haf e he hb)))
    rintro a' w' ⟨v, rfl, hRv, hSw, hU⟩
    refine ih (l.erase i) _ _ _ (by simpa using hls) (by rw [List.length_erase_of_mem hil]; omega) (fun j hj => ?_) ⟨hSw, (defers_put _ _ _).trans hI.defers, (size_put _ _ _).trans hI.size, fun t ht => (get_put_ne _ _ _ _ (ht i)).trans (hI.old t ht), fun j t hd hj => ?_⟩
    · have hji : j ≠ i := fun e => by
        subst e
        simp [Array.getD, hisz] at hj
      refine (List.mem_erase_of_ne hji).2 (hl j ?_)
      by_cases hjs : j < listed.size
      · simp only [Array.getD, Array.size_setIfInBounds, hjs, dif_pos] at hj ⊢
        rw [Array.getInternal_eq_getElem, Array.getElem_setIfInBounds_ne _ (Ne.symm hji)] at hj
        exact hj
      · simp only [Array.getD, Array.size_setIfInBounds, hjs, dif_neg, not_false_eq_true] at hj
        cases hj
    · by_cases hji : j = i
      · subst hji
        rw [hd, at_put_same _ _ _ (by rw [hI.size, hn]; exact regOk_lt hok hd)]
        exact hRv
      · have hne : dstOf ops i ≠ some t := fun h => hji (regOk_ne hok hd h)
        rw [at_put_ne _ _ _ _ hne]
        refine hR i j _ _ _ hji (hI.vals j t hd ?_) hI.world hSw hU
        by_cases hjs : j < listed.size
        · simp only [Array.getD, Array.size_setIfInBounds, hjs, dif_pos] at hj ⊢
          rw [Array.getInternal_eq_getElem, Array.getElem_setIfInBounds_ne _ (Ne.symm hji)] at hj
          exact hj
        · simp only [Array.getD, Array.size_setIfInBounds, hjs, dif_neg, not_false_eq_true] at hj
          cases hj

/-- The region. -/
theorem wp_region_invU {id : Nat} (S : World → Prop) (R : Nat → Value → World → Prop) (U : Nat → World → World → Prop) {a0 : Act} {w0 : World} {n : Nat} (hm : P.follows .mixedOrders = true) (hok : regOk ops n = true) (hn : a0.tmps.size = n) (hS : S w0.drew)
    (hR : ∀ i k v w w', k ≠ i → R k v w → S w → S w' → U i w w' → R k v w')
    (hstep : ∀ i o, ops[i]? = some o → ∀ a w, S w → (∀ t, (∀ i, dstOf ops i ≠ some t) → a.tmps[t]? = a0.tmps[t]?) → (∀ e ∈ o.after, Region.binds .any e = true → ∀ t, dstOf ops e.on = some t → R e.on (at_ a t) w) → StepOkU P ops Q S R U i a w)
    (hfin : ∀ a w, S w → a.defers = a0.defers → a.tmps.size = a0.tmps.size → (∀ t, (∀ i, dstOf ops i ≠ some t) → a.tmps[t]? = a0.tmps[t]?) → (∀ i t, dstOf ops i = some t → R i (at_ a t) w) → Q .normal a w) :
    (Code.region id ops true).wp P Q a0 w0 :=
  wp_region_any hm (wpAny_invU hok hn hR hstep hfin ops.size (List.range ops.size) _ _ _ (by simp) (by simp) (fun i hi => by
    by_cases h : i < ops.size
    · exact List.mem_range.2 h
    · simp [Array.getD, h] at hi) ⟨hS, rfl, rfl, fun _ _ => rfl, fun i t hd hi => by
      exfalso
      by_cases h : i < ops.size <;> simp [Array.getD, h] at hi⟩)

/-- As Spec; or: it is a row of the region's own. -/
inductive Spec3 where
  | s (x : Spec)
  | own (base : Nat) (e : TypeId) (k : Nat) (cs : List Value)
  | is (R : Value → World → Prop) (h : ∀ v w w', R v w → Upd [] w w' → R v w')
def Spec3.holds : Spec3 → Value → World → Prop
  | .s x, v, w => x.holds v w
  | .own b e k cs, v, w => (∃ p c, v = .slice p k c) ∧ w.ownsRow b e 1 v k cs
  | .is R _, v, w => R v w
theorem Spec3.holds_upd {s : Spec3} {v : Value} {w w' : World} (h : s.holds v w) (u : Upd [] w w') : s.holds v w' := by
  cases s with
  | s x => exact Spec.holds_upd (s := x) h u
  | is R hR => exact hR _ _ _ h u
  | own b e k cs =>
    obtain ⟨h1, h2, h3⟩ := h
    refine ⟨h1, h2, ?_⟩
    rcases h3 with h3 | ⟨g, cap, cur, hv, hb, hg, rest⟩
    · exact .inl h3
    · refine .inr ⟨g, cap, cur, hv, hb, ?_, rest⟩
      rw [u.block g (Array.getElem?_eq_some_iff.1 hg).1 (by simp)]
      exact hg

/-- The region, by specs; operation ia grows a row: what the others' values have stands at that (Kp). -/
theorem wp_region_own {id : Nat} (specs : List Spec3) (ia : Nat) (Kp : World → World → Prop) {a0 : Act} {w0 : World} {n : Nat} (hm : P.follows .mixedOrders = true) (hok : regOk ops n = true) (hn : a0.tmps.size = n)
    (hkp : ∀ k, k ≠ ia → ∀ v w w', (specs.getD k (.s .any)).holds v w → Kp w w' → (specs.getD k (.s .any)).holds v w')
    (hstep : ∀ i o, ops[i]? = some o → ∀ a w, Upd [] w0 w → (∀ t v, notDst ops t = true → a0.tmps[t]? = some v → a.tmps[t]? = some v) → (∀ j, j ∈ needsOf o → ∀ t, dstOf ops j = some t → (specs.getD j (.s .any)).holds (at_ a t) w) →
      ∀ K' : Act → World → Prop, (∀ v w', (specs.getD i (.s .any)).holds v w' → cond (Nat.beq i ia) (Upd [] w0 w' ∧ Kp w w') (Upd [] w w') → K' (a.put o.dst v) w') → if Region.wanted o (yielded ops a.tmps) = true then Oper.wp P o a w K' Q else K' (a.put o.dst undef) w)
    (hfin : ∀ a w, Upd [] w0 w → a.tmps.size = n → a.defers = a0.defers → (∀ t v, notDst ops t = true → a0.tmps[t]? = some v → a.tmps[t]? = some v) → (∀ j t, dstOf ops j = some t → (specs.getD j (.s .any)).holds (at_ a t) w) → Q .normal a w) :
    (Code.region id ops true).wp P Q a0 w0 := by
  refine wp_region_invU (Upd [] w0) (fun i => (specs.getD i (.s .any)).holds) (fun i w w' => cond (Nat.beq i ia) (Upd [] w0 w' ∧ Kp w w') (Upd [] w w')) hm hok hn (Upd.refl [] w0).drew ?_ ?_ ?_
  · intro i k v w w' hki h _ _ u
    by_cases hi : i = ia
    · subst hi
      rw [Nat.beq_refl] at u
      exact hkp k hki v w w' h u.2
    · have : Nat.beq i ia = false := by
        cases hb : Nat.beq i ia with
        | false => rfl
        | true => exact absurd (Nat.eq_of_beq_eq_true hb) hi
      rw [this] at u
      exact Spec3.holds_upd h u
  · intro i o ho a w hS hold hneed
    refine wpOp_step ho (fun K' hK => hstep i o ho a w hS (fun t v ht hv => (hold t (notDst_spec ht)).trans hv) (fun j hj t hd => ?_) K' (fun v w' hv hu => ?_))
    · unfold needsOf at hj
      rw [List.mem_filterMap] at hj
      obtain ⟨e, he, hif⟩ := hj
      split at hif
      · rename_i hb
        simp only [Option.some.injEq] at hif
        subst hif
        exact hneed e (by simpa using he) hb t hd
      · cases hif
    · refine hK _ _ ⟨v, ?_, hv, ?_, hu⟩
      · unfold dstOf; rw [ho]; rfl
      · cases hb : Nat.beq i ia with
        | true => rw [hb] at hu; exact hu.1
        | false => rw [hb] at hu; exact hS.trans_nil hu
  · intro a w hS hdf hsz hold hvals
    exact hfin a w hS (hsz.trans hn) hdf (fun t v ht hv => (hold t (notDst_spec ht)).trans hv) hvals

end Go.Proofs.Ytppbaahaegmgeaa

/- As Reh, where the first operations change nothing that is known; what their values have may be whatever stands while memory grows. No program in sight. -/
namespace Go.Proofs.Ytppbaahaegmgeaa
open Go

variable {P : Program} {ops : Array Oper} {Q : Exit → Act → World → Prop}

theorem wp_region_head3 {id : Nat} (m : Nat) (specs : List Spec3) {a0 : Act} {w0 : World} {n : Nat} (hm : P.follows .mixedOrders = true) (hok : regOk ops n = true) (htl : tailOk ops m = true) (hn : a0.tmps.size = n)
    (hstep : ∀ i o, i < m → ops[i]? = some o → ∀ a w, Upd [] w0 w → (∀ t v, notDstTo ops m t = true → a0.tmps[t]? = some v → a.tmps[t]? = some v) → (∀ j, j ∈ needsOf o → ∀ t, dstOf ops j = some t → (specs.getD j (.s .any)).holds (at_ a t) w) →
      ∀ K' : Act → World → Prop, (∀ v w', (specs.getD i (.s .any)).holds v w' → Upd [] w w' → K' (a.put o.dst v) w') → if Region.wanted o (yielded ops a.tmps) = true then Oper.wp P o a w K' Q else K' (a.put o.dst undef) w)
    (hfin : ∀ a w, Upd [] w0 w → a.tmps.size = n → a.defers = a0.defers → (∀ t v, notDstTo ops m t = true → a0.tmps[t]? = some v → a.tmps[t]? = some v) → (∀ j t, j < m → dstOf ops j = some t → (specs.getD j (.s .any)).holds (at_ a t) w) → wpList P ops Q (ops.toList.drop m) a w) :
    (Code.region id ops true).wp P Q a0 w0 := by
  have hms : m < ops.size := by
    unfold tailOk at htl
    simp only [Bool.and_eq_true, decide_eq_true_eq] at htl
    exact htl.1.1
  have heff : ∀ i, effOf ([] : List (Nat × Eff)) i = effOf [] 0 := fun i => rfl
  refine wp_region_any hm ?_
  have := wpAny_reh (P := P) (Q := Q) (D := fun _ => false) (S := Upd [] w0) (R := fun i => (specs.getD i (.s .any)).holds) (E := []) (a0 := a0) hok htl hn ?_ ?_ (fun i k w w' _ _ _ _ => ⟨fun h => h, fun h => h⟩) ?_ ?_ m (List.range m) (Array.replicate ops.size false) a0 w0.drew (by simp) (by simp) List.nodup_range (fun i => by
    rw [List.mem_range]
    constructor
    · intro h; exact ⟨h, by simp [Array.getD]; omega⟩
    · exact fun h => h.1) ⟨(Upd.refl _ w0).drew, rfl, rfl, fun _ _ => rfl, fun i t _ hd hi => by
      exfalso
      by_cases h : i < ops.size <;> simp [Array.getD, h] at hi, fun i _ hi => by
      exfalso
      by_cases h : i < ops.size <;> simp [Array.getD, h] at hi, fun i _ => trivial, fun i o e ho hi he hb => by
      exfalso
      by_cases h : i < ops.size <;> simp [Array.getD, h] at hi, fun i _ => by
      by_cases h : i < ops.size <;> simp [Array.getD, h], fun i j t u _ _ _ _ _ _ _ hi _ => by
      exfalso
      by_cases h : i < ops.size <;> simp [Array.getD, h] at hi⟩
  · rw [show m + (ops.size - m) = ops.size by omega] at this
    exact this
  · intro i k v w w' _ hv _ _ hU
    exact Spec3.holds_upd hv hU
  · intro i v w hd _
    cases hd
  · intro i o him ho a w hS hold hneed hun
    refine wpOp_step ho (fun K' hK => hstep i o him ho a w hS (fun t v ht hv => (hold t (notDstTo_spec ht)).trans hv) (fun j hj => ?_) K' (fun v w' hv hu => ?_))
    · unfold needsOf at hj
      rw [List.mem_filterMap] at hj
      obtain ⟨e, he, hif⟩ := hj
      split at hif
      · rename_i hb
        simp only [Option.some.injEq] at hif
        subst hif
        exact (hneed e (by simpa using he) hb).2
      · cases hif
    · refine hK _ _ ⟨v, ?_, hv, fun hd => ?_, trivial, hS.trans_nil hu, hu⟩
      · unfold dstOf; rw [ho]; rfl
      · cases hd
  · intro a w hS hdf hsz hold hvals _ _
    exact hfin a w hS (hsz.trans hn) hdf (fun t v ht hv => (hold t (notDstTo_spec ht)).trans hv) hvals

end Go.Proofs.Ytppbaahaegmgeaa

/- As Reh3, and the blocks that are made by pointers (.pt) are new and apart. No program in sight. -/
namespace Go.Proofs.Ytppbaahaegmgeaa
open Go

variable {P : Program} {ops : Array Oper} {Q : Exit → Act → World → Prop}

def Spec3.isPt : Spec3 → Bool
  | .s (.pt _ _) => true
  | _ => false
def Spec3.holds4 (N : Nat) (s : Spec3) (v : Value) (w : World) : Prop :=
  s.holds v w ∧ (s.isPt = true → ∃ b, blkOf v = some b ∧ N ≤ b ∧ b < w.heap.size)
theorem Spec3.holds4_upd {N : Nat} {s : Spec3} {v : Value} {w w' : World} (h : s.holds4 N v w) (u : Upd [] w w') : s.holds4 N v w' :=
  ⟨Spec3.holds_upd h.1 u, fun e => (h.2 e).elim fun b hb => ⟨b, hb.1, hb.2.1, Nat.lt_of_lt_of_le hb.2.2 u.size⟩⟩

theorem wp_region_head4 {id : Nat} (m : Nat) (specs : List Spec3) {a0 : Act} {w0 : World} {n : Nat} (hm : P.follows .mixedOrders = true) (hok : regOk ops n = true) (htl : tailOk ops m = true) (hn : a0.tmps.size = n)
    (hstep : ∀ i o, i < m → ops[i]? = some o → ∀ a w, Upd [] w0 w → (∀ t v, notDstTo ops m t = true → a0.tmps[t]? = some v → a.tmps[t]? = some v) → (∀ j, j ∈ needsOf o → ∀ t, dstOf ops j = some t → (specs.getD j (.s .any)).holds (at_ a t) w) →
      ∀ K' : Act → World → Prop, (∀ v w', (specs.getD i (.s .any)).holds v w' → cond (specs.getD i (.s .any)).isPt (∃ b, blkOf v = some b ∧ w.heap.size ≤ b) True → Upd [] w w' → K' (a.put o.dst v) w') → if Region.wanted o (yielded ops a.tmps) = true then Oper.wp P o a w K' Q else K' (a.put o.dst undef) w)
    (hfin : ∀ a w, Upd [] w0 w → a.tmps.size = n → a.defers = a0.defers → (∀ t v, notDstTo ops m t = true → a0.tmps[t]? = some v → a.tmps[t]? = some v) → (∀ j t, j < m → dstOf ops j = some t → (specs.getD j (.s .any)).holds (at_ a t) w) →
      (∀ j t, j < m → (specs.getD j (.s .any)).isPt = true → dstOf ops j = some t → ∃ b, blkOf (at_ a t) = some b ∧ w0.heap.size ≤ b) →
      (∀ i j t u, i < m → j < m → i ≠ j → (specs.getD i (.s .any)).isPt = true → (specs.getD j (.s .any)).isPt = true → dstOf ops i = some t → dstOf ops j = some u → blkOf (at_ a t) ≠ blkOf (at_ a u)) → wpList P ops Q (ops.toList.drop m) a w) :
    (Code.region id ops true).wp P Q a0 w0 := by
  have hms : m < ops.size := by
    unfold tailOk at htl
    simp only [Bool.and_eq_true, decide_eq_true_eq] at htl
    exact htl.1.1
  have heff : ∀ i, effOf ([] : List (Nat × Eff)) i = effOf [] 0 := fun i => rfl
  refine wp_region_any hm ?_
  have := wpAny_reh (P := P) (Q := Q) (D := fun i => (specs.getD i (.s .any)).isPt) (S := Upd [] w0) (R := fun i => (specs.getD i (.s .any)).holds4 w0.heap.size) (E := []) (a0 := a0) hok htl hn ?_ ?_ (fun i k w w' _ _ _ _ => ⟨fun h => h, fun h => h⟩) ?_ ?_ m (List.range m) (Array.replicate ops.size false) a0 w0.drew (by simp) (by simp) List.nodup_range (fun i => by
    rw [List.mem_range]
    constructor
    · intro h; exact ⟨h, by simp [Array.getD]; omega⟩
    · exact fun h => h.1) ⟨(Upd.refl _ w0).drew, rfl, rfl, fun _ _ => rfl, fun i t _ hd hi => by
      exfalso
      by_cases h : i < ops.size <;> simp [Array.getD, h] at hi, fun i _ hi => by
      exfalso
      by_cases h : i < ops.size <;> simp [Array.getD, h] at hi, fun i _ => trivial, fun i o e ho hi he hb => by
      exfalso
      by_cases h : i < ops.size <;> simp [Array.getD, h] at hi, fun i _ => by
      by_cases h : i < ops.size <;> simp [Array.getD, h], fun i j t u _ _ _ _ _ _ _ hi _ => by
      exfalso
      by_cases h : i < ops.size <;> simp [Array.getD, h] at hi⟩
  · rw [show m + (ops.size - m) = ops.size by omega] at this
    exact this
  · intro i k v w w' _ hv _ _ hU
    exact Spec3.holds4_upd hv hU
  · intro i v w hd hv
    obtain ⟨b, h1, _, h3⟩ := hv.2 hd
    exact ⟨b, h1, h3⟩
  · intro i o him ho a w hS hold hneed hun
    refine wpOp_step ho (fun K' hK => hstep i o him ho a w hS (fun t v ht hv => (hold t (notDstTo_spec ht)).trans hv) (fun j hj => ?_) K' (fun v w' hv hp hu => ?_))
    · unfold needsOf at hj
      rw [List.mem_filterMap] at hj
      obtain ⟨e, he, hif⟩ := hj
      split at hif
      · rename_i hb
        simp only [Option.some.injEq] at hif
        subst hif
        exact fun t hd => ((hneed e (by simpa using he) hb).2 t hd).1
      · cases hif
    · have hpt : (specs.getD i (.s .any)).isPt = true → ∃ b, blkOf v = some b ∧ w.heap.size ≤ b := fun h => by
        rw [h] at hp; exact hp
      have hlt : (specs.getD i (.s .any)).isPt = true → ∃ b, blkOf v = some b ∧ w0.heap.size ≤ b ∧ b < w'.heap.size := fun h => by
        obtain ⟨b, h1, h2⟩ := hpt h
        refine ⟨b, h1, Nat.le_trans hS.size h2, ?_⟩
        generalize specs.getD i (.s .any) = s at hv h
        match s, h, hv with
        | .s (.pt cs T), _, hv =>
          obtain ⟨b', e, hb⟩ := hv
          rw [e] at h1
          obtain rfl : b' = b := Option.some.inj h1
          exact hb.lt
      refine hK _ _ ⟨v, ?_, ⟨hv, hlt⟩, hpt, trivial, hS.trans_nil hu, hu⟩
      unfold dstOf; rw [ho]; rfl
  · intro a w hS hdf hsz hold hvals _ hap
    exact hfin a w hS (hsz.trans hn) hdf (fun t v ht hv => (hold t (notDstTo_spec ht)).trans hv) (fun j t hj hd => (hvals j t hj hd).1) (fun j t hj hp hd => ((hvals j t hj hd).2 hp).elim fun b hb => ⟨b, hb.1, hb.2.1⟩) hap

end Go.Proofs.Ytppbaahaegmgeaa
