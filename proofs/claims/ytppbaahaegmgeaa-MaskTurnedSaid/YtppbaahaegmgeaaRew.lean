/- A region that draws its order, some of whose operations write: by what each value has, and what each writing operation finds and leaves. No program in sight. -/
import Derived.Test.YtppbaahaegmgeaaReg
namespace Go.Proofs.Ytppbaahaegmgeaa
open Go

variable {P : Program} {ops : Array Oper} {Q : Exit → Act → World → Prop}

/-- What an operation writes: the blocks, what it finds, what it leaves. -/
structure Eff where
  ws : List Nat
  pre : World → Prop
  post : World → Prop
def Eff.none : Eff := ⟨[], fun _ => True, fun _ => True⟩
def effOf (E : List (Nat × Eff)) (i : Nat) : Eff := match E with
  | [] => Eff.none
  | x :: r => if x.1 = i then x.2 else effOf r i

/-- k waits for i, through others too. -/
def waitsOn (ops : Array Oper) : Nat → Nat → Nat → Bool
  | 0, _, _ => false
  | f + 1, k, i => match ops[k]? with
    | some o => o.after.any fun e => Region.binds .any e && (e.on == i || waitsOn ops f e.on i)
    | none => false

structure RewInv (ops : Array Oper) (S : World → Prop) (R : Nat → Value → World → Prop) (E : List (Nat × Eff)) (a0 : Act) (listed : Array Bool) (a : Act) (w : World) : Prop where
  world : S w
  defers : a.defers = a0.defers
  size : a.tmps.size = a0.tmps.size
  old : ∀ t, (∀ i, dstOf ops i ≠ some t) → a.tmps[t]? = a0.tmps[t]?
  vals : ∀ i t, dstOf ops i = some t → listed.getD i false = true → R i (at_ a t) w
  posts : ∀ i, listed.getD i false = true → (effOf E i).post w
  pres : ∀ i, listed.getD i false = false → (effOf E i).pre w
  closed : ∀ i o e, ops[i]? = some o → listed.getD i false = true → e ∈ o.after → Region.binds .any e = true → listed.getD e.on false = true

def RewStep (P : Program) (ops : Array Oper) (Q : Exit → Act → World → Prop) (S : World → Prop) (R : Nat → Value → World → Prop) (E : List (Nat × Eff)) (i : Nat) (a : Act) (w : World) : Prop :=
  wpOp P ops Q i (fun a' w' => ∃ v, a' = a.put (dstOf ops i) v ∧ R i v w' ∧ (effOf E i).post w' ∧ S w' ∧ Upd (effOf E i).ws w w') a w

theorem getD_set_ne (l : Array Bool) (i j : Nat) (h : j ≠ i) (b d : Bool) : (l.setIfInBounds i b).getD j d = l.getD j d := by
  by_cases hj : j < l.size
  · simp only [Array.getD, Array.size_setIfInBounds, hj, dif_pos]
    rw [Array.getInternal_eq_getElem, Array.getElem_setIfInBounds_ne _ (Ne.symm h)]
    rfl
  · simp only [Array.getD, Array.size_setIfInBounds, hj, dif_neg, not_false_eq_true]
theorem getD_set_same (l : Array Bool) (i : Nat) (h : i < l.size) (b d : Bool) : (l.setIfInBounds i b).getD i d = b := by
  simp [Array.getD, h]
theorem getD_ff (l : Array Bool) (i : Nat) (h : i < l.size) (b d : Bool) : l.getD i b = l.getD i d := by
  simp [Array.getD, h]

theorem wpAny_rew {S : World → Prop} {R : Nat → Value → World → Prop} {E : List (Nat × Eff)} {a0 : Act} {n : Nat} (hok : regOk ops n = true) (hn : a0.tmps.size = n)
    (hR : ∀ i k v w w', k ≠ i → R k v w → S w → S w' → Upd (effOf E i).ws w w' → R k v w')
    (hE : ∀ i k w w', k ≠ i → S w → S w' → Upd (effOf E i).ws w w' → ((effOf E k).pre w → (effOf E k).pre w') ∧ ((effOf E k).post w → (effOf E k).post w'))
    (hstep : ∀ i o, ops[i]? = some o → ∀ a w, S w → (∀ t, (∀ i, dstOf ops i ≠ some t) → a.tmps[t]? = a0.tmps[t]?) → (∀ e ∈ o.after, Region.binds .any e = true → (effOf E e.on).post w ∧ ∀ t, dstOf ops e.on = some t → R e.on (at_ a t) w) →
      (∀ k, k = i ∨ waitsOn ops ops.size k i = true → (effOf E k).pre w) → RewStep P ops Q S R E i a w)
    (hfin : ∀ a w, S w → a.defers = a0.defers → a.tmps.size = a0.tmps.size → (∀ t, (∀ i, dstOf ops i ≠ some t) → a.tmps[t]? = a0.tmps[t]?) → (∀ i t, dstOf ops i = some t → R i (at_ a t) w) → (∀ i, i < ops.size → (effOf E i).post w) → Q .normal a w) :
    ∀ (fuel : Nat) (l : List Nat) (listed : Array Bool) (a : Act) (w : World), listed.size = ops.size → l.length ≤ fuel → (∀ i, listed.getD i true = false → i ∈ l) → RewInv ops S R E a0 listed a w → wpAny P .any ops Q fuel listed a w := by
  have fin : ∀ (listed : Array Bool) (a : Act) (w : World), listed.size = ops.size → RewInv ops S R E a0 listed a w → Region.ready .any ops listed = [] → Q .normal a w := by
    intro listed a w hls hI hr
    have hall : ∀ i, i < ops.size → listed.getD i true = true := by
      intro i
      induction i using Nat.strongRecOn with
      | ind i ih =>
        intro hi
        by_cases hl : listed.getD i true = true
        · exact hl
        · exfalso
          have hl' : listed.getD i true = false := by simpa using hl
          have ho : ops[i]? = some ops[i] := Array.getElem?_eq_getElem hi
          have : i ∈ Region.ready .any ops listed := mem_ready.2 ⟨hl', ops[i], ho, fun e he hb => by
            have hlt := regOk_after hok ho he hb
            have h2 := ih e.on hlt (by omega)
            rw [getD_ff _ _ (by omega) _ true]; exact h2⟩
          rw [hr] at this
          cases this
    refine hfin a w hI.world hI.defers hI.size hI.old (fun i t hd => hI.vals i t hd ?_) (fun i hi => hI.posts i ?_)
    · have hi : i < ops.size := by
        unfold dstOf at hd
        rcases Nat.lt_or_ge i ops.size with h | h
        · exact h
        · rw [Array.getElem?_eq_none h] at hd; cases hd
      rw [getD_ff _ _ (by omega) _ true]; exact hall i hi
    · rw [getD_ff _ _ (by omega) _ true]; exact hall i hi
  have hwait : ∀ (listed : Array Bool) (a : Act) (w : World), RewInv ops S R E a0 listed a w → ∀ i, listed.getD i false = false → ∀ f k, waitsOn ops f k i = true → listed.getD k false = false := by
    intro listed a w hI i hi f
    induction f with
    | zero => intro k hk; simp [waitsOn] at hk
    | succ f ihf =>
      intro k hk
      unfold waitsOn at hk
      cases ho : ops[k]? with
      | none => rw [ho] at hk; cases hk
      | some o =>
        rw [ho] at hk
        dsimp only at hk
        rw [Array.any_eq_true'] at hk
        obtain ⟨e, he, hb⟩ := hk
        rw [Bool.and_eq_true, Bool.or_eq_true] at hb
        cases hc : listed.getD k false with
        | false => rfl
        | true =>
          have h2 := hI.closed k o e ho hc he hb.1
          rcases hb.2 with h3 | h3
          · rw [beq_iff_eq] at h3; rw [h3, hi] at h2; cases h2
          · rw [ihf e.on h3] at h2; cases h2
  intro fuel
  induction fuel with
  | zero =>
    intro l listed a w hls hll hl hI
    have hr : Region.ready .any ops listed = [] := by
      apply List.eq_nil_iff_forall_not_mem.2
      intro i hi
      have := hl i (mem_ready.1 hi).1
      have : l = [] := List.eq_nil_of_length_eq_zero (by omega)
      subst this
      simp_all
    exact ⟨hr, fin listed a w hls hI hr⟩
  | succ fuel ih =>
    intro l listed a w hls hll hl hI
    refine ⟨fin listed a w hls hI, fun i hi => ?_⟩
    obtain ⟨hun, o, ho, haf⟩ := mem_ready.1 hi
    have hil : i ∈ l := hl i hun
    have hisz : i < listed.size := by
      have := (Array.getElem?_eq_some_iff.1 ho).1
      omega
    have hun' : listed.getD i false = false := by rw [getD_ff _ _ hisz _ true]; exact hun
    refine wpOp_mono ?_ (hstep i o ho a w hI.world hI.old (fun e he hb => ⟨hI.posts e.on (haf e he hb), fun t hd => hI.vals e.on t hd (haf e he hb)⟩) (fun k hk => hI.pres k ?_))
    · rintro a' w' ⟨v, rfl, hRv, hpost, hSw, hU⟩
      refine ih (l.erase i) _ _ _ (by simpa using hls) (by rw [List.length_erase_of_mem hil]; omega) (fun j hj => ?_) ⟨hSw, (defers_put _ _ _).trans hI.defers, (size_put _ _ _).trans hI.size, fun t ht => (get_put_ne _ _ _ _ (ht i)).trans (hI.old t ht), fun j t hd hj => ?_, fun j hj => ?_, fun j hj => ?_, fun j o' e ho' hj he hb => ?_⟩
      · have hji : j ≠ i := fun e => by
          subst e
          rw [getD_set_same _ _ hisz] at hj; cases hj
        rw [getD_set_ne _ _ _ hji] at hj
        exact (List.mem_erase_of_ne hji).2 (hl j hj)
      · by_cases hji : j = i
        · subst hji
          rw [hd, at_put_same _ _ _ (by rw [hI.size, hn]; exact regOk_lt hok hd)]
          exact hRv
        · have hne : dstOf ops i ≠ some t := fun h => hji (regOk_ne hok hd h)
          rw [at_put_ne _ _ _ _ hne]
          rw [getD_set_ne _ _ _ hji] at hj
          exact hR i j _ _ _ hji (hI.vals j t hd hj) hI.world hSw hU
      · by_cases hji : j = i
        · subst hji; exact hpost
        · rw [getD_set_ne _ _ _ hji] at hj
          exact (hE i j _ _ hji hI.world hSw hU).2 (hI.posts j hj)
      · have hji : j ≠ i := fun e => by
          subst e
          rw [getD_set_same _ _ hisz] at hj; cases hj
        rw [getD_set_ne _ _ _ hji] at hj
        exact (hE i j _ _ hji hI.world hSw hU).1 (hI.pres j hj)
      · by_cases hei : e.on = i
        · rw [hei, getD_set_same _ _ hisz]
        · rw [getD_set_ne _ _ _ hei]
          by_cases hji : j = i
          · subst hji
            obtain rfl : o = o' := Option.some.inj (ho.symm.trans ho')
            exact haf e he hb
          · rw [getD_set_ne _ _ _ hji] at hj
            exact hI.closed j o' e ho' hj he hb
    · rcases hk with rfl | hk
      · exact hun'
      · exact hwait listed a w hI i hun' _ k hk

/-- What an operation's value has: it is x; it is a slice of a new block that holds cs; it has p (whatever the world); whatever. -/
def Spec.holdsN (N : Nat) : Spec → Value → World → Prop
  | .eq x, v, _ => v = x
  | .sl n c cs T, v, w => ∃ b, v = .slice (some ⟨b, 0, none⟩) n c ∧ N ≤ b ∧ Blk w b cs T
  | .any, _, _ => True
  | .wh c x, v, _ => c = true → v = x
  | .pt cs T, v, w => ∃ b, v = .pointer (some ⟨b, 0, none⟩) ∧ N ≤ b ∧ Blk w b cs T

theorem effOf_cases (E : List (Nat × Eff)) (i : Nat) : effOf E i = Eff.none ∨ (i, effOf E i) ∈ E := by
  induction E with
  | nil => exact .inl rfl
  | cons x r ih =>
    unfold effOf
    by_cases h : x.1 = i
    · rw [if_pos h]; exact .inr (by rw [← h]; exact List.mem_cons_self)
    · rw [if_neg h]
      exact ih.imp id (List.mem_cons_of_mem _)

/-- The region, by specs and effects. bs: all that is written; hE: what one operation finds, or leaves, no other one turns. -/
theorem wp_region_eff {id : Nat} (specs : List Spec) (E : List (Nat × Eff)) (bs : List Nat) {a0 : Act} {w0 : World} {n : Nat} (hm : P.follows .mixedOrders = true) (hok : regOk ops n = true) (hn : a0.tmps.size = n)
    (hbs : ∀ b ∈ bs, b < w0.heap.size) (hws : ∀ x ∈ E, ∀ b ∈ x.2.ws, b ∈ bs)
    (hE0 : ∀ x ∈ E, ∀ w w', Upd [] w w' → (x.2.pre w → x.2.pre w') ∧ (x.2.post w → x.2.post w'))
    (hE : ∀ x ∈ E, ∀ y ∈ E, x.1 ≠ y.1 → ∀ w w', Upd x.2.ws w w' → (y.2.pre w → y.2.pre w') ∧ (y.2.post w → y.2.post w'))
    (hpre : ∀ x ∈ E, x.2.pre w0.drew)
    (hstep : ∀ i o, ops[i]? = some o → ∀ a w, Upd bs w0 w → (∀ t v, notDst ops t = true → a0.tmps[t]? = some v → a.tmps[t]? = some v) → (∀ j, j ∈ needsOf o → (effOf E j).post w ∧ ∀ t, dstOf ops j = some t → (specs.getD j .any).holdsN w0.heap.size (at_ a t) w) →
      (∀ k, k = i ∨ waitsOn ops ops.size k i = true → (effOf E k).pre w) →
      ∀ K' : Act → World → Prop, (∀ v w', (specs.getD i .any).holdsN w0.heap.size v w' → (effOf E i).post w' → Upd (effOf E i).ws w w' → K' (a.put o.dst v) w') → if Region.wanted o (yielded ops a.tmps) = true then Oper.wp P o a w K' Q else K' (a.put o.dst undef) w)
    (hfin : ∀ a w, Upd bs w0 w → a.tmps.size = n → a.defers = a0.defers → (∀ t v, notDst ops t = true → a0.tmps[t]? = some v → a.tmps[t]? = some v) → (∀ j t, dstOf ops j = some t → (specs.getD j .any).holdsN w0.heap.size (at_ a t) w) → (∀ i, i < ops.size → (effOf E i).post w) → Q .normal a w) :
    (Code.region id ops true).wp P Q a0 w0 := by
  have hsub : ∀ i, ∀ b ∈ (effOf E i).ws, b ∈ bs := fun i b hb => by
    rcases effOf_cases E i with h | h
    · rw [h] at hb; cases hb
    · exact hws _ h b hb
  have hEE : ∀ i k w w', k ≠ i → Upd (effOf E i).ws w w' → ((effOf E k).pre w → (effOf E k).pre w') ∧ ((effOf E k).post w → (effOf E k).post w') := fun i k w w' hki hU => by
    rcases effOf_cases E k with h | h
    · rw [h]; exact ⟨fun _ => trivial, fun _ => trivial⟩
    · rcases effOf_cases E i with h' | h'
      · rw [h'] at hU; exact hE0 _ h w w' hU
      · exact hE _ h' _ h (fun e => hki e.symm) w w' hU
  refine wp_region_any hm (wpAny_rew (S := Upd bs w0) (R := fun i => (specs.getD i .any).holdsN w0.heap.size) (E := E) hok hn ?_ (fun i k w w' hki _ _ hU => hEE i k w w' hki hU) ?_ ?_ ops.size (List.range ops.size) _ _ _ (by simp) (by simp) (fun i hi => by
    by_cases h : i < ops.size
    · exact List.mem_range.2 h
    · simp [Array.getD, h] at hi) ⟨(Upd.refl bs w0).drew, rfl, rfl, fun _ _ => rfl, fun i t hd hi => by
      exfalso
      by_cases h : i < ops.size <;> simp [Array.getD, h] at hi, fun i hi => by
      exfalso
      by_cases h : i < ops.size <;> simp [Array.getD, h] at hi, fun i _ => by
      rcases effOf_cases E i with h | h
      · rw [h]; trivial
      · exact hpre _ h, fun i o e ho hi he hb => by
      exfalso
      by_cases h : i < ops.size <;> simp [Array.getD, h] at hi⟩)
  · intro i k v w w' hki hv hS hS' hU
    have : ∀ s : Spec, s.holdsN w0.heap.size v w → s.holdsN w0.heap.size v w' := fun s hs => by
      cases s with
      | eq x => exact hs
      | sl n c cs T =>
        obtain ⟨b, h1, h2, h3⟩ := hs
        exact ⟨b, h1, h2, h3.upd hU (fun hb => by have := hbs _ (hsub i b hb); omega)⟩
      | any => trivial
      | wh c x => exact hs
      | pt cs T =>
        obtain ⟨b, h1, h2, h3⟩ := hs
        exact ⟨b, h1, h2, h3.upd hU (fun hb => by have := hbs _ (hsub i b hb); omega)⟩
    exact this _ hv
  · intro i o ho a w hS hold hneed hun
    refine wpOp_step ho (fun K' hK => hstep i o ho a w hS (fun t v ht hv => (hold t (notDst_spec ht)).trans hv) (fun j hj => ?_) hun K' (fun v w' hv hp hu => ?_))
    · unfold needsOf at hj
      rw [List.mem_filterMap] at hj
      obtain ⟨e, he, hif⟩ := hj
      split at hif
      · rename_i hb
        simp only [Option.some.injEq] at hif
        subst hif
        exact hneed e (by simpa using he) hb
      · cases hif
    · refine hK _ _ ⟨v, ?_, hv, hp, hS.trans hu (fun b hb => Or.inl (hsub i b hb)), hu⟩
      unfold dstOf; rw [ho]; rfl
  · intro a w hS hdf hsz hold hvals hposts
    exact hfin a w hS (hsz.trans hn) hdf (fun t v ht hv => (hold t (notDst_spec ht)).trans hv) hvals hposts

/-- An operation that writes block b, which held old, and then holds new. -/
structure BE where
  i : Nat
  b : Nat
  old : List Value
  new : List Value
  T : TypeId
def BE.eff (x : BE) : Nat × Eff := (x.i, ⟨[x.b], fun w => Blk w x.b x.old x.T, fun w => Blk w x.b x.new x.T⟩)

/-- The region, where what is written are whole blocks that are known, each by one operation. -/
theorem wp_region_blk {id : Nat} (specs : List Spec) (E : List BE) {a0 : Act} {w0 : World} {n : Nat} (hm : P.follows .mixedOrders = true) (hok : regOk ops n = true) (hn : a0.tmps.size = n)
    (hne : ∀ x ∈ E, ∀ y ∈ E, x.i ≠ y.i → x.b ≠ y.b) (hpre : ∀ x ∈ E, Blk w0 x.b x.old x.T)
    (hstep : ∀ i o, ops[i]? = some o → ∀ a w, Upd (E.map (·.b)) w0 w → (∀ t v, notDst ops t = true → a0.tmps[t]? = some v → a.tmps[t]? = some v) → (∀ j, j ∈ needsOf o → (effOf (E.map BE.eff) j).post w ∧ ∀ t, dstOf ops j = some t → (specs.getD j .any).holdsN w0.heap.size (at_ a t) w) →
      (∀ k, k = i ∨ waitsOn ops ops.size k i = true → (effOf (E.map BE.eff) k).pre w) →
      ∀ K' : Act → World → Prop, (∀ v w', (specs.getD i .any).holdsN w0.heap.size v w' → (effOf (E.map BE.eff) i).post w' → Upd (effOf (E.map BE.eff) i).ws w w' → K' (a.put o.dst v) w') → if Region.wanted o (yielded ops a.tmps) = true then Oper.wp P o a w K' Q else K' (a.put o.dst undef) w)
    (hfin : ∀ a w, Upd (E.map (·.b)) w0 w → a.tmps.size = n → a.defers = a0.defers → (∀ t v, notDst ops t = true → a0.tmps[t]? = some v → a.tmps[t]? = some v) → (∀ j t, dstOf ops j = some t → (specs.getD j .any).holdsN w0.heap.size (at_ a t) w) → (∀ i, i < ops.size → (effOf (E.map BE.eff) i).post w) → Q .normal a w) :
    (Code.region id ops true).wp P Q a0 w0 := by
  refine wp_region_eff specs (E.map BE.eff) (E.map (·.b)) hm hok hn ?_ ?_ ?_ ?_ ?_ hstep hfin
  · intro b hb
    obtain ⟨x, hx, rfl⟩ := List.mem_map.1 hb
    exact (hpre x hx).lt
  · intro y hy b hb
    obtain ⟨x, hx, rfl⟩ := List.mem_map.1 hy
    obtain rfl : b = x.b := by simpa [BE.eff] using hb
    exact List.mem_map.2 ⟨x, hx, rfl⟩
  · intro y hy w w' hU
    obtain ⟨x, hx, rfl⟩ := List.mem_map.1 hy
    exact ⟨fun h => h.upd_nil hU, fun h => h.upd_nil hU⟩
  · intro y1 hy1 y2 hy2 hne' w w' hU
    obtain ⟨x1, hx1, rfl⟩ := List.mem_map.1 hy1
    obtain ⟨x2, hx2, rfl⟩ := List.mem_map.1 hy2
    have h12 := hne x1 hx1 x2 hx2 hne'
    have hb : x2.b ∉ x1.eff.2.ws := by simp [BE.eff]; exact fun e => h12 e.symm
    exact ⟨fun h => Blk.upd h hU hb, fun h => Blk.upd h hU hb⟩
  · intro y hy
    obtain ⟨x, hx, rfl⟩ := List.mem_map.1 hy
    exact (hpre x hx).drew

end Go.Proofs.Ytppbaahaegmgeaa
