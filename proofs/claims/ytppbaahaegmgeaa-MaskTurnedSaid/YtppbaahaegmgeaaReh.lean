/- A region that draws its order, but whose last operations stand in one order: the first by what each value has, and what each writing operation finds and leaves; the last walked. No program in sight. -/
import Derived.Test.YtppbaahaegmgeaaRew
import Derived.StillTail
namespace Go.Proofs.Ytppbaahaegmgeaa
open Go

variable {P : Program} {ops : Array Oper} {Q : Exit → Act → World → Prop}

/-- No operation of the first m yields into t. -/
def notDstTo (ops : Array Oper) (m t : Nat) : Bool := (List.range m).all fun i => dstOf ops i != some t
theorem notDstTo_spec {m t : Nat} (h : notDstTo ops m t = true) : ∀ i, i < m → dstOf ops i ≠ some t := by
  intro i hm hi
  unfold notDstTo at h
  rw [List.all_eq_true] at h
  have := h i (List.mem_range.2 hm)
  rw [hi] at this
  simp at this

/-- The block at which a value points. -/
def blkOf : Value → Option Nat
  | .pointer (some a) => some a.block
  | _ => none
def Spec.isPt : Spec → Bool
  | .pt _ _ => true
  | _ => false
/-- What an operation's value has when it is made, out of world w. -/
def Spec.made (N : Nat) (w : World) : Spec → Value → World → Prop
  | .pt cs T, v, w' => ∃ b, v = .pointer (some ⟨b, 0, none⟩) ∧ w.heap.size ≤ b ∧ Blk w' b cs T
  | s, v, w' => s.holdsN N v w'
theorem Spec.made_holds {N : Nat} {w w' : World} {s : Spec} {v : Value} (hN : N ≤ w.heap.size) (h : s.made N w v w') : s.holdsN N v w' := by
  cases s with
  | pt cs T => obtain ⟨b, h1, h2, h3⟩ := h; exact ⟨b, h1, by omega, h3⟩
  | _ => exact h

structure RehInv (ops : Array Oper) (m : Nat) (D : Nat → Bool) (S : World → Prop) (R : Nat → Value → World → Prop) (E : List (Nat × Eff)) (a0 : Act) (listed : Array Bool) (a : Act) (w : World) : Prop where
  world : S w
  defers : a.defers = a0.defers
  size : a.tmps.size = a0.tmps.size
  old : ∀ t, (∀ i, i < m → dstOf ops i ≠ some t) → a.tmps[t]? = a0.tmps[t]?
  vals : ∀ i t, i < m → dstOf ops i = some t → listed.getD i false = true → R i (at_ a t) w
  posts : ∀ i, i < m → listed.getD i false = true → (effOf E i).post w
  pres : ∀ i, listed.getD i false = false → (effOf E i).pre w
  closed : ∀ i o e, ops[i]? = some o → listed.getD i false = true → e ∈ o.after → Region.binds .any e = true → listed.getD e.on false = true
  tail : ∀ i, m ≤ i → listed.getD i false = false
  aloof : ∀ i j t u, i < m → j < m → i ≠ j → D i = true → D j = true → dstOf ops i = some t → dstOf ops j = some u → listed.getD i false = true → listed.getD j false = true → blkOf (at_ a t) ≠ blkOf (at_ a u)

def RehStep (P : Program) (ops : Array Oper) (D : Nat → Bool) (Q : Exit → Act → World → Prop) (S : World → Prop) (R : Nat → Value → World → Prop) (E : List (Nat × Eff)) (i : Nat) (a : Act) (w : World) : Prop :=
  wpOp P ops Q i (fun a' w' => ∃ v, a' = a.put (dstOf ops i) v ∧ R i v w' ∧ (D i = true → ∃ b, blkOf v = some b ∧ w.heap.size ≤ b) ∧ (effOf E i).post w' ∧ S w' ∧ Upd (effOf E i).ws w w') a w

/-- Each of the last operations waits for all the first ones; they stand in one order. -/
def tailOk (ops : Array Oper) (m : Nat) : Bool :=
  decide (m < ops.size) && ((List.range ops.size).all fun k => decide (k < m) || (List.range m).all fun i => waitsOn ops ops.size k i) &&
    Region.seqB .any ops (ops.size - m) m ((List.range ops.size).map fun i => decide (i < m)).toArray

theorem wpAny_reh {D : Nat → Bool} {S : World → Prop} {R : Nat → Value → World → Prop} {E : List (Nat × Eff)} {a0 : Act} {n m : Nat} (hok : regOk ops n = true) (htl : tailOk ops m = true) (hn : a0.tmps.size = n)
    (hR : ∀ i k v w w', k ≠ i → R k v w → S w → S w' → Upd (effOf E i).ws w w' → R k v w')
    (hD : ∀ i v w, D i = true → R i v w → ∃ b, blkOf v = some b ∧ b < w.heap.size)
    (hE : ∀ i k w w', k ≠ i → S w → S w' → Upd (effOf E i).ws w w' → ((effOf E k).pre w → (effOf E k).pre w') ∧ ((effOf E k).post w → (effOf E k).post w'))
    (hstep : ∀ i o, i < m → ops[i]? = some o → ∀ a w, S w → (∀ t, (∀ i, i < m → dstOf ops i ≠ some t) → a.tmps[t]? = a0.tmps[t]?) → (∀ e ∈ o.after, Region.binds .any e = true → (effOf E e.on).post w ∧ ∀ t, dstOf ops e.on = some t → R e.on (at_ a t) w) →
      (∀ k, k = i ∨ waitsOn ops ops.size k i = true → (effOf E k).pre w) → RehStep P ops D Q S R E i a w)
    (hfin : ∀ a w, S w → a.defers = a0.defers → a.tmps.size = a0.tmps.size → (∀ t, (∀ i, i < m → dstOf ops i ≠ some t) → a.tmps[t]? = a0.tmps[t]?) → (∀ i t, i < m → dstOf ops i = some t → R i (at_ a t) w) → (∀ i, i < m → (effOf E i).post w) → (∀ i j t u, i < m → j < m → i ≠ j → D i = true → D j = true → dstOf ops i = some t → dstOf ops j = some u → blkOf (at_ a t) ≠ blkOf (at_ a u)) → wpList P ops Q (ops.toList.drop m) a w) :
    ∀ (r : Nat) (l : List Nat) (listed : Array Bool) (a : Act) (w : World), listed.size = ops.size → l.length = r → l.Nodup → (∀ i, i ∈ l ↔ i < m ∧ listed.getD i true = false) → RehInv ops m D S R E a0 listed a w → wpAny P .any ops Q (r + (ops.size - m)) listed a w := by
  unfold tailOk at htl
  simp only [Bool.and_eq_true, decide_eq_true_eq] at htl
  obtain ⟨⟨hm, hwt⟩, hsq⟩ := htl
  have htw : ∀ k i, m ≤ k → k < ops.size → i < m → waitsOn ops ops.size k i = true := fun k i h1 h2 h3 => by
    have := List.all_eq_true.1 hwt k (List.mem_range.2 h2)
    rw [Bool.or_eq_true, decide_eq_true_eq] at this
    rcases this with h | h
    · omega
    · exact List.all_eq_true.1 h i (List.mem_range.2 h3)
  have hwait : ∀ (listed : Array Bool) (a : Act) (w : World), RehInv ops m D S R E a0 listed a w → ∀ i, listed.getD i false = false → ∀ f k, waitsOn ops f k i = true → listed.getD k false = false := by
    intro listed a w hI i hi f
    induction f with
    | zero => intro k hk; simp [waitsOn] at hk
    | succ f ihf =>
      intro k hk
      unfold waitsOn at hk
      cases ho : ops[k]? with
      | none => rw [ho] at hk; cases hk
      | some o =>
        rw [ho] at hk
        dsimp only at hk
        rw [Array.any_eq_true'] at hk
        obtain ⟨e, he, hb⟩ := hk
        rw [Bool.and_eq_true, Bool.or_eq_true] at hb
        cases hc : listed.getD k false with
        | false => rfl
        | true =>
          have h2 := hI.closed k o e ho hc he hb.1
          rcases hb.2 with h3 | h3
          · rw [beq_iff_eq] at h3; rw [h3, hi] at h2; cases h2
          · rw [ihf e.on h3] at h2; cases h2
  intro r
  induction r with
  | zero =>
    intro l listed a w hls hll hnd hl hI
    obtain rfl : l = [] := List.eq_nil_of_length_eq_zero hll
    have hall : ∀ i, i < m → listed.getD i true = true := fun i hi => by
      cases h : listed.getD i true with
      | true => rfl
      | false => exact absurd ((hl i).2 ⟨hi, h⟩) (by simp)
    have hlit : listed = ((List.range ops.size).map fun i => decide (i < m)).toArray := by
      apply Array.ext
      · simpa using hls
      · intro i h1 h2
        have hi : i < ops.size := by omega
        simp only [List.getElem_toArray, List.getElem_map, List.getElem_range]
        by_cases him : i < m
        · have := hall i him
          simp only [Array.getD, h1, dif_pos] at this
          rw [decide_eq_true him]; exact this
        · have := hI.tail i (by omega)
          simp only [Array.getD, h1, dif_pos] at this
          rw [decide_eq_false him]; exact this
    have hw := hfin a w hI.world hI.defers hI.size hI.old (fun i t hi hd => hI.vals i t hi hd (by rw [getD_ff _ _ (by omega) _ true]; exact hall i hi)) (fun i hi => hI.posts i hi (by rw [getD_ff _ _ (by omega) _ true]; exact hall i hi)) (fun i j t u hi hj hij di dj ti uj => hI.aloof i j t u hi hj hij di dj ti uj (by rw [getD_ff _ _ (by omega) _ true]; exact hall i hi) (by rw [getD_ff _ _ (by omega) _ true]; exact hall j hj))
    have hlen : (ops.toList.drop m).length = ops.size - m := by simp
    have := wpAny_of_seq (md := .any) (Q' := Q) (ops.toList.drop m) m listed a w (fun j => by simp [List.getElem?_drop]) (by rw [hlen, hlit]; exact hsq) hw
    rw [hlen] at this
    rw [Nat.zero_add]; exact this
  | succ r ih =>
    intro l listed a w hls hll hnd hl hI
    rw [show r + 1 + (ops.size - m) = (r + (ops.size - m)) + 1 by omega]
    have hex : ∃ i, i < m ∧ listed.getD i true = false := by
      cases l with
      | nil => simp at hll
      | cons i l => exact ⟨i, (hl i).1 List.mem_cons_self⟩
    refine ⟨fun hr => ?_, fun i hi => ?_⟩
    · exfalso
      obtain ⟨i0, hi0, hu0⟩ := hex
      have key : ∀ i, i < m → listed.getD i true = true := by
        intro i
        induction i using Nat.strongRecOn with
        | ind i ih2 =>
          intro hi
          by_cases hl2 : listed.getD i true = true
          · exact hl2
          · exfalso
            have hl' : listed.getD i true = false := by simpa using hl2
            have ho : ops[i]? = some ops[i] := Array.getElem?_eq_getElem (by omega)
            have : i ∈ Region.ready .any ops listed := mem_ready.2 ⟨hl', ops[i], ho, fun e he hb => by
              have hlt := regOk_after hok ho he hb
              have h2 := ih2 e.on hlt (by omega)
              rw [getD_ff _ _ (by omega) _ true]; exact h2⟩
            rw [hr] at this
            cases this
      rw [key i0 hi0] at hu0; cases hu0
    · obtain ⟨hun, o, ho, haf⟩ := mem_ready.1 hi
      have hios : i < ops.size := (Array.getElem?_eq_some_iff.1 ho).1
      have hisz : i < listed.size := by omega
      have hun' : listed.getD i false = false := by rw [getD_ff _ _ hisz _ true]; exact hun
      have him : i < m := by
        rcases Nat.lt_or_ge i m with h | h
        · exact h
        · exfalso
          obtain ⟨i0, hi0, hu0⟩ := hex
          have hu0' : listed.getD i0 false = false := by rw [getD_ff _ _ (by omega) _ true]; exact hu0
          have hw := htw i i0 h hios hi0
          obtain ⟨f, hf⟩ : ∃ f, ops.size = f + 1 := ⟨ops.size - 1, by omega⟩
          rw [hf] at hw
          unfold waitsOn at hw
          rw [ho] at hw
          dsimp only at hw
          rw [Array.any_eq_true'] at hw
          obtain ⟨e, he, hb⟩ := hw
          rw [Bool.and_eq_true, Bool.or_eq_true] at hb
          have h2 := haf e he hb.1
          rcases hb.2 with h3 | h3
          · rw [beq_iff_eq] at h3; rw [h3, hu0'] at h2; cases h2
          · rw [hwait listed a w hI i0 hu0' f e.on h3] at h2; cases h2
      have hil : i ∈ l := (hl i).2 ⟨him, hun⟩
      refine wpOp_mono ?_ (hstep i o him ho a w hI.world hI.old (fun e he hb => ?_) (fun k hk => hI.pres k ?_))
      · rintro a' w' ⟨v, rfl, hRv, hfr, hpost, hSw, hU⟩
        refine ih (l.erase i) _ _ _ (by simpa using hls) (by rw [List.length_erase_of_mem hil]; omega) (hnd.erase i) (fun j => ?_) ⟨hSw, (defers_put _ _ _).trans hI.defers, (size_put _ _ _).trans hI.size, fun t ht => (get_put_ne _ _ _ _ (ht i him)).trans (hI.old t ht), fun j t hjm hd hj => ?_, fun j hjm hj => ?_, fun j hj => ?_, fun j o' e ho' hj he hb => ?_, fun j hj => ?_, fun j k t u hj hk hjk dj dk tj uk lj lk => ?_⟩
        · rw [hnd.mem_erase_iff, hl j]
          by_cases hji : j = i
          · subst hji
            rw [getD_set_same _ _ hisz]
            simp
          · rw [getD_set_ne _ _ _ hji]
            simp [hji]
        · by_cases hji : j = i
          · subst hji
            rw [hd, at_put_same _ _ _ (by rw [hI.size, hn]; exact regOk_lt hok hd)]
            exact hRv
          · have hne : dstOf ops i ≠ some t := fun h => hji (regOk_ne hok hd h)
            rw [at_put_ne _ _ _ _ hne]
            rw [getD_set_ne _ _ _ hji] at hj
            exact hR i j _ _ _ hji (hI.vals j t hjm hd hj) hI.world hSw hU
        · by_cases hji : j = i
          · subst hji; exact hpost
          · rw [getD_set_ne _ _ _ hji] at hj
            exact (hE i j _ _ hji hI.world hSw hU).2 (hI.posts j hjm hj)
        · have hji : j ≠ i := fun e => by
            subst e
            rw [getD_set_same _ _ hisz] at hj; cases hj
          rw [getD_set_ne _ _ _ hji] at hj
          exact (hE i j _ _ hji hI.world hSw hU).1 (hI.pres j hj)
        · by_cases hei : e.on = i
          · rw [hei, getD_set_same _ _ hisz]
          · rw [getD_set_ne _ _ _ hei]
            by_cases hji : j = i
            · subst hji
              obtain rfl : o = o' := Option.some.inj (ho.symm.trans ho')
              exact haf e he hb
            · rw [getD_set_ne _ _ _ hji] at hj
              exact hI.closed j o' e ho' hj he hb
        · rw [getD_set_ne _ _ _ (by omega)]
          exact hI.tail j hj
        · by_cases hji : j = i
          · subst hji
            have hki : k ≠ j := fun e => hjk e.symm
            rw [getD_set_ne _ _ _ hki] at lk
            have hne : dstOf ops j ≠ some u := fun h => hki (regOk_ne hok uk h)
            rw [at_put_ne _ _ _ _ hne, tj, at_put_same _ _ _ (by rw [hI.size, hn]; exact regOk_lt hok tj)]
            obtain ⟨b, h1, h2⟩ := hfr dj
            obtain ⟨c, h3, h4⟩ := hD k _ _ dk (hI.vals k u hk uk lk)
            rw [h1, h3]
            intro e
            have := Option.some.inj e
            omega
          · rw [getD_set_ne _ _ _ hji] at lj
            have hnj : dstOf ops i ≠ some t := fun h => hji (regOk_ne hok tj h)
            by_cases hki : k = i
            · subst hki
              rw [at_put_ne _ _ _ _ hnj, uk, at_put_same _ _ _ (by rw [hI.size, hn]; exact regOk_lt hok uk)]
              obtain ⟨b, h1, h2⟩ := hfr dk
              obtain ⟨c, h3, h4⟩ := hD j _ _ dj (hI.vals j t hj tj lj)
              rw [h1, h3]
              intro e
              have := Option.some.inj e
              omega
            · rw [getD_set_ne _ _ _ hki] at lk
              have hnk : dstOf ops i ≠ some u := fun h => hki (regOk_ne hok uk h)
              rw [at_put_ne _ _ _ _ hnj, at_put_ne _ _ _ _ hnk]
              exact hI.aloof j k t u hj hk hjk dj dk tj uk lj lk
      · have hlt := regOk_after hok ho he hb
        exact ⟨hI.posts e.on (by omega) (haf e he hb), fun t hd => hI.vals e.on t (by omega) hd (haf e he hb)⟩
      · rcases hk with rfl | hk
        · exact hun'
        · exact hwait listed a w hI i hun' _ k hk

/-- The region, by specs and effects of the first m operations. -/
theorem wp_region_head {id : Nat} (m : Nat) (specs : List Spec) (E : List BE) {a0 : Act} {w0 : World} {n : Nat} (hm : P.follows .mixedOrders = true) (hok : regOk ops n = true) (htl : tailOk ops m = true) (hn : a0.tmps.size = n)
    (hne : ∀ x ∈ E, ∀ y ∈ E, x.i ≠ y.i → x.b ≠ y.b) (hpre : ∀ x ∈ E, Blk w0 x.b x.old x.T)
    (hstep : ∀ i o, i < m → ops[i]? = some o → ∀ a w, Upd (E.map (·.b)) w0 w → (∀ t v, notDstTo ops m t = true → a0.tmps[t]? = some v → a.tmps[t]? = some v) → (∀ j, j ∈ needsOf o → (effOf (E.map BE.eff) j).post w ∧ ∀ t, dstOf ops j = some t → (specs.getD j .any).holdsN w0.heap.size (at_ a t) w) →
      (∀ k, k = i ∨ waitsOn ops ops.size k i = true → (effOf (E.map BE.eff) k).pre w) →
      ∀ K' : Act → World → Prop, (∀ v w', (specs.getD i .any).made w0.heap.size w v w' → (effOf (E.map BE.eff) i).post w' → Upd (effOf (E.map BE.eff) i).ws w w' → K' (a.put o.dst v) w') → if Region.wanted o (yielded ops a.tmps) = true then Oper.wp P o a w K' Q else K' (a.put o.dst undef) w)
    (hfin : ∀ a w, Upd (E.map (·.b)) w0 w → a.tmps.size = n → a.defers = a0.defers → (∀ t v, notDstTo ops m t = true → a0.tmps[t]? = some v → a.tmps[t]? = some v) → (∀ j t, j < m → dstOf ops j = some t → (specs.getD j .any).holdsN w0.heap.size (at_ a t) w) → (∀ i, i < m → (effOf (E.map BE.eff) i).post w) → (∀ i j t u, i < m → j < m → i ≠ j → (specs.getD i .any).isPt = true → (specs.getD j .any).isPt = true → dstOf ops i = some t → dstOf ops j = some u → blkOf (at_ a t) ≠ blkOf (at_ a u)) → wpList P ops Q (ops.toList.drop m) a w) :
    (Code.region id ops true).wp P Q a0 w0 := by
  have hbs : ∀ b ∈ E.map (·.b), b < w0.heap.size := by
    intro b hb
    obtain ⟨x, hx, rfl⟩ := List.mem_map.1 hb
    exact (hpre x hx).lt
  have hsub : ∀ i, ∀ b ∈ (effOf (E.map BE.eff) i).ws, b ∈ E.map (·.b) := fun i b hb => by
    rcases effOf_cases (E.map BE.eff) i with h | h
    · rw [h] at hb; cases hb
    · obtain ⟨x, hx, hxe⟩ := List.mem_map.1 h
      rw [← (Prod.mk.inj hxe).2] at hb
      obtain rfl : b = x.b := by simpa [BE.eff] using hb
      exact List.mem_map.2 ⟨x, hx, rfl⟩
  have hEE : ∀ i k w w', k ≠ i → Upd (effOf (E.map BE.eff) i).ws w w' → ((effOf (E.map BE.eff) k).pre w → (effOf (E.map BE.eff) k).pre w') ∧ ((effOf (E.map BE.eff) k).post w → (effOf (E.map BE.eff) k).post w') := fun i k w w' hki hU => by
    rcases effOf_cases (E.map BE.eff) k with h | h
    · rw [h]; exact ⟨fun _ => trivial, fun _ => trivial⟩
    · obtain ⟨x, hx, hxe⟩ := List.mem_map.1 h
      have hxe2 := Prod.mk.inj hxe
      rw [← hxe2.2]
      rcases effOf_cases (E.map BE.eff) i with h' | h'
      · rw [h'] at hU
        exact ⟨fun h => Blk.upd_nil h hU, fun h => Blk.upd_nil h hU⟩
      · obtain ⟨y, hy, hye⟩ := List.mem_map.1 h'
        have hye2 := Prod.mk.inj hye
        rw [← hye2.2] at hU
        have hxy : x.b ≠ y.b := hne x hx y hy (fun e => hki (by rw [← hxe2.1, ← hye2.1]; exact e))
        have hb : x.b ∉ y.eff.2.ws := by simp [BE.eff]; exact hxy
        exact ⟨fun h => Blk.upd h hU hb, fun h => Blk.upd h hU hb⟩
  have hms : m < ops.size := by
    unfold tailOk at htl
    simp only [Bool.and_eq_true, decide_eq_true_eq] at htl
    exact htl.1.1
  refine wp_region_any hm ?_
  have := wpAny_reh (P := P) (Q := Q) (D := fun i => (specs.getD i .any).isPt) (S := Upd (E.map (·.b)) w0) (R := fun i => (specs.getD i .any).holdsN w0.heap.size) (E := E.map BE.eff) (a0 := a0) hok htl hn ?_ ?_ (fun i k w w' hki _ _ hU => hEE i k w w' hki hU) ?_ ?_ m (List.range m) (Array.replicate ops.size false) a0 w0.drew (by simp) (by simp) List.nodup_range (fun i => by
    rw [List.mem_range]
    constructor
    · intro h; exact ⟨h, by simp [Array.getD]; omega⟩
    · exact fun h => h.1) ⟨(Upd.refl _ w0).drew, rfl, rfl, fun _ _ => rfl, fun i t _ hd hi => by
      exfalso
      by_cases h : i < ops.size <;> simp [Array.getD, h] at hi, fun i _ hi => by
      exfalso
      by_cases h : i < ops.size <;> simp [Array.getD, h] at hi, fun i _ => by
      rcases effOf_cases (E.map BE.eff) i with h | h
      · rw [h]; trivial
      · obtain ⟨x, hx, hxe⟩ := List.mem_map.1 h
        rw [← (Prod.mk.inj hxe).2]
        exact (hpre x hx).drew, fun i o e ho hi he hb => by
      exfalso
      by_cases h : i < ops.size <;> simp [Array.getD, h] at hi, fun i _ => by
      by_cases h : i < ops.size <;> simp [Array.getD, h], fun i j t u _ _ _ _ _ _ _ hi _ => by
      exfalso
      by_cases h : i < ops.size <;> simp [Array.getD, h] at hi⟩
  · rw [show m + (ops.size - m) = ops.size by omega] at this
    exact this
  · intro i k v w w' hki hv hS hS' hU
    have : ∀ s : Spec, s.holdsN w0.heap.size v w → s.holdsN w0.heap.size v w' := fun s hs => by
      cases s with
      | eq x => exact hs
      | sl n c cs T =>
        obtain ⟨b, h1, h2, h3⟩ := hs
        exact ⟨b, h1, h2, h3.upd hU (fun hb => by have := hbs _ (hsub i b hb); omega)⟩
      | any => trivial
      | wh c x => exact hs
      | pt cs T =>
        obtain ⟨b, h1, h2, h3⟩ := hs
        exact ⟨b, h1, h2, h3.upd hU (fun hb => by have := hbs _ (hsub i b hb); omega)⟩
    exact this _ hv
  · intro i v w hd hv
    try dsimp only at hd hv
    generalize specs.getD i .any = s at hd hv
    cases s with
    | pt cs T =>
      obtain ⟨b, rfl, _, h3⟩ := hv
      exact ⟨b, rfl, h3.lt⟩
    | _ => cases hd
  · intro i o him ho a w hS hold hneed hun
    refine wpOp_step ho (fun K' hK => hstep i o him ho a w hS (fun t v ht hv => (hold t (notDstTo_spec ht)).trans hv) (fun j hj => ?_) hun K' (fun v w' hv hp hu => ?_))
    · unfold needsOf at hj
      rw [List.mem_filterMap] at hj
      obtain ⟨e, he, hif⟩ := hj
      split at hif
      · rename_i hb
        simp only [Option.some.injEq] at hif
        subst hif
        exact hneed e (by simpa using he) hb
      · cases hif
    · refine hK _ _ ⟨v, ?_, Spec.made_holds hS.size hv, fun hd => ?_, hp, hS.trans hu (fun b hb => Or.inl (hsub i b hb)), hu⟩
      · unfold dstOf; rw [ho]; rfl
      · dsimp only at hd
        generalize specs.getD i .any = s at hd hv
        cases s with
        | pt cs T =>
          obtain ⟨b, rfl, h2, _⟩ := hv
          exact ⟨b, rfl, h2⟩
        | _ => cases hd
  · intro a w hS hdf hsz hold hvals hposts hap
    exact hfin a w hS (hsz.trans hn) hdf (fun t v ht hv => (hold t (notDstTo_spec ht)).trans hv) hvals hposts hap

end Go.Proofs.Ytppbaahaegmgeaa
