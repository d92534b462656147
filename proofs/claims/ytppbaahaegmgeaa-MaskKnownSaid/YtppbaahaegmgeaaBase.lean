/- Words for memory block by block: what a block holds ('Blk'), and that a call turned no block but those of a list ('Upd'). No program in sight. -/
import Derived.WalkKit
import Derived.WalkSpells
import Derived.Lib.Hide
import Derived.BigQuiet
import Derived.Deep.QuietTactic
namespace Go.Proofs.Ytppbaahaegmgeaa
open Go.RowKit

/-- Block b holds the cells cs, and no cell of it is frozen. -/
def Blk (w : World) (b : Nat) (cs : List Value) (T : TypeId) : Prop := w.heap[b]? = some (.cells cs.toArray T (0, 0))

theorem Blk.lt {w : World} {b : Nat} {cs : List Value} {T : TypeId} (h : Blk w b cs T) : b < w.heap.size := by
  unfold Blk at h
  exact (Array.getElem?_eq_some_iff.1 h).1

theorem Blk.cell {w : World} {b : Nat} {cs : List Value} {T : TypeId} (h : Blk w b cs T) (o : Nat) {v : Value} (hv : cs[o]? = some v) : w.cell? ⟨b, o, none⟩ = some v := by
  unfold Blk at h
  simp [World.cell?, h, hv]

theorem Blk.free {w : World} {b : Nat} {cs : List Value} {T : TypeId} (h : Blk w b cs T) (o : Nat) : w.frozen? ⟨b, o, none⟩ = false := by
  unfold Blk at h
  simp [World.frozen?, h]

theorem Blk.set {w : World} {b : Nat} {cs : List Value} {T : TypeId} (h : Blk w b cs T) (o : Nat) (v : Value) : Blk (w.setCell ⟨b, o, none⟩ v) b (cs.set o v) T := by
  unfold Blk at h ⊢
  simp [World.setCell, Array.getElem?_modify, h]

theorem Blk.set_ne {w : World} {b : Nat} {cs : List Value} {T : TypeId} (h : Blk w b cs T) (a : Addr) (hne : b ≠ a.block) (v : Value) : Blk (w.setCell a v) b cs T := by
  unfold Blk at h ⊢
  rw [Below.heap_setCell _ _ _ _ hne]; exact h

theorem Blk.alloc {w : World} {b : Nat} {cs : List Value} {T : TypeId} (h : Blk w b cs T) (o : Obj) : Blk (w.alloc o) b cs T := by
  have hl := h.lt
  unfold Blk at h ⊢
  rw [Below.heap_alloc _ _ _ hl]; exact h

theorem Blk.new (w : World) (cs : Array Value) (T : TypeId) : Blk (w.alloc (.cells cs T)) w.heap.size cs.toList T := by
  unfold Blk
  show (w.heap.push _)[w.heap.size]? = _
  simp

theorem Blk.new_at {w : World} {cs : Array Value} {l : List Value} {T : TypeId} {n : Nat} (hn : n = w.heap.size) (hl : cs = l.toArray) : Blk (w.alloc (.cells cs T)) n l T := by
  subst hn; subst hl
  have := Blk.new w l.toArray T
  simpa using this

theorem Blk.drew {w : World} {b : Nat} {cs : List Value} {T : TypeId} (h : Blk w b cs T) : Blk w.drew b cs T := h

theorem Blk.of_heap {w w' : World} {b : Nat} {cs : List Value} {T : TypeId} (h : Blk w b cs T) (e : w'.heap[b]? = w.heap[b]?) : Blk w' b cs T := by
  unfold Blk at h ⊢; rw [e]; exact h

/-- No block that w had was turned but those of bs; the streams are as they were. -/
structure Upd (bs : List Nat) (w w' : World) : Prop where
  os : w'.os = w.os
  tape : w'.tape = w.tape
  output : w'.output = w.output
  size : w.heap.size ≤ w'.heap.size
  block : ∀ k, k < w.heap.size → k ∉ bs → w'.heap[k]? = w.heap[k]?

theorem Upd.refl (bs : List Nat) (w : World) : Upd bs w w := ⟨rfl, rfl, rfl, Nat.le_refl _, fun _ _ _ => rfl⟩

/-- Two steps: what the second turned is of bs, or was made by the first. -/
theorem Upd.trans {bs cs : List Nat} {a b c : World} (h : Upd bs a b) (k : Upd cs b c) (hc : ∀ x ∈ cs, x ∈ bs ∨ a.heap.size ≤ x) : Upd bs a c :=
  ⟨k.os.trans h.os, k.tape.trans h.tape, k.output.trans h.output, Nat.le_trans h.size k.size, fun i hi hn => by
    rw [k.block i (Nat.lt_of_lt_of_le hi h.size) (fun hm => (hc i hm).elim hn (fun hl => by omega)), h.block i hi hn]⟩

theorem Upd.trans_nil {bs : List Nat} {a b c : World} (h : Upd bs a b) (k : Upd [] b c) : Upd bs a c := h.trans k (fun _ hx => absurd hx (by simp))
theorem Upd.trans_same {bs : List Nat} {a b c : World} (h : Upd bs a b) (k : Upd bs b c) : Upd bs a c := h.trans k (fun _ hx => Or.inl hx)

theorem Upd.mono {bs cs : List Nat} {w w' : World} (h : Upd bs w w') (hs : ∀ x ∈ bs, x ∈ cs) : Upd cs w w' :=
  ⟨h.os, h.tape, h.output, h.size, fun k hk hn => h.block k hk (fun hm => hn (hs k hm))⟩

theorem Upd.drew {bs : List Nat} {a w : World} (h : Upd bs a w) : Upd bs a w.drew := ⟨h.os, h.tape, h.output, h.size, h.block⟩

theorem Upd.alloc {bs : List Nat} {a w : World} (h : Upd bs a w) (o : Obj) : Upd bs a (w.alloc o) :=
  h.trans_nil ⟨rfl, rfl, rfl, by simp, fun k hk _ => Below.heap_alloc _ _ _ hk⟩

theorem Upd.setCell {bs : List Nat} {a w : World} (h : Upd bs a w) {p : Addr} (hp : p.block ∈ bs ∨ a.heap.size ≤ p.block) (u : Value) : Upd bs a (w.setCell p u) :=
  h.trans (cs := [p.block]) ⟨rfl, rfl, rfl, by simp [World.setCell], fun k _ hn => Below.heap_setCell _ _ _ _ (by simpa using hn)⟩ (by simpa using hp)

theorem Upd.grown {bs : List Nat} {a w w' : World} {row : Option Nat} (h : Upd bs a w) (hg : w.grownBy w' row) (hr : ∀ k, row = some k → k ∈ bs ∨ a.heap.size ≤ k) : Upd bs a w' :=
  h.trans (cs := row.toList) ⟨hg.os, hg.tape, hg.output, hg.size, fun k hk hn => hg.block k hk (fun e => hn (by rw [← e]; simp))⟩ (fun x hx => hr x (by simpa [Option.mem_toList] using hx))

/-- Behind an append onto a row of the call's own. -/
theorem Upd.grown_own {bs : List Nat} {a w w' wr : World} {e : TypeId} {size n : Nat} {v : Value} {xs : List Value} (h : Upd bs a w) (hg : w.grownBy w' v.ownBlock) (ho : wr.ownsRow a.heap.size e size v n xs) : Upd bs a w' :=
  h.grown hg (fun k hk => Or.inr (ho.lt k hk).1)

theorem Upd.of_drewN {bs : List Nat} {a w : World} (h : Upd bs a w) (n : Nat) : Upd bs a (w.drewN n) := ⟨h.os, h.tape, h.output, h.size, h.block⟩
theorem Blk.of_drewN {w : World} {b : Nat} {cs : List Value} {T : TypeId} (h : Blk w b cs T) (n : Nat) : Blk (w.drewN n) b cs T := h

theorem Upd.of_below {B : Nat} {w w' : World} (h : Below B w w') (hB : w.heap.size ≤ B) (bs : List Nat) : Upd bs w w' :=
  ⟨h.os, h.tape, h.output, h.size, fun k hk _ => h.block k (by omega)⟩

theorem Upd.below {bs : List Nat} {w w' : World} (h : Upd bs w w') {B : Nat} (hB : B ≤ w.heap.size) (hs : ∀ x ∈ bs, B ≤ x) : Below B w w' :=
  ⟨h.os, h.tape, h.output, h.size, fun k hk => h.block k (by omega) (fun hm => by have := hs k hm; omega)⟩

theorem Upd.below_nil {w w' : World} (h : Upd [] w w') : Below w.heap.size w w' := h.below (Nat.le_refl _) (by simp)

theorem Blk.upd {w w' : World} {b : Nat} {cs : List Value} {T : TypeId} (h : Blk w b cs T) {bs : List Nat} (u : Upd bs w w') (hn : b ∉ bs) : Blk w' b cs T :=
  h.of_heap (u.block b h.lt hn)

theorem Blk.upd_nil {w w' : World} {b : Nat} {cs : List Value} {T : TypeId} (h : Blk w b cs T) (u : Upd [] w w') : Blk w' b cs T := h.upd u (by simp)

theorem Upd.cell {w w' : World} {bs : List Nat} (u : Upd bs w w') {a : Addr} (hl : a.block < w.heap.size) (hn : a.block ∉ bs) : w'.cell? a = w.cell? a :=
  World.cell?_of_block (w := w) (u.block _ hl hn)
theorem Upd.frozen {w w' : World} {bs : List Nat} (u : Upd bs w w') {a : Addr} (hl : a.block < w.heap.size) (hn : a.block ∉ bs) : w'.frozen? a = w.frozen? a :=
  World.frozen?_of_block (w := w) (u.block _ hl hn)

theorem lt_of_cell {w : World} {a : Addr} {v : Value} (h : w.cell? a = some v) : a.block < w.heap.size := by
  unfold World.cell? at h
  by_cases hl : a.block < w.heap.size
  · exact hl
  · have : w.heap[a.block]? = none := by simp; omega
    rw [this] at h; cases h

/-- Rows of k cells each, n of them, by an index function. -/
def flat (k n : Nat) (f : Nat → Nat → Value) : List Value := (List.range (n * k)).map fun p => f (p / k) (p % k)

theorem flat_get {k n : Nat} (f : Nat → Nat → Value) {i j : Nat} (hi : i < n) (hj : j < k) : (flat k n f)[i * k + j]? = some (f i j) := by
  have hlt : i * k + j < n * k := by
    have : (i + 1) * k ≤ n * k := Nat.mul_le_mul_right _ hi
    rw [Nat.succ_mul] at this; omega
  have e1 : (i * k + j) / k = i := by
    rw [Nat.mul_comm, Nat.mul_add_div (by omega), Nat.div_eq_of_lt hj]; rfl
  have e2 : (i * k + j) % k = j := by
    rw [Nat.mul_comm, Nat.mul_add_mod, Nat.mod_eq_of_lt hj]
  simp [flat, hlt, e1, e2]

/-- An index function with one place turned. -/
def put2 (f : Nat → Nat → Value) (i j : Nat) (v : Value) : Nat → Nat → Value := fun i' j' => if i' = i ∧ j' = j then v else f i' j'

theorem flat_set {k n : Nat} (f : Nat → Nat → Value) {i j : Nat} (hj : j < k) (v : Value) : (flat k n f).set (i * k + j) v = flat k n (put2 f i j v) := by
  apply List.ext_getElem?
  intro p
  rw [List.getElem?_set]
  have hlen : (flat k n f).length = n * k := by simp [flat]
  by_cases hp : p < n * k
  · have hk : 0 < k := by omega
    by_cases e : i * k + j = p
    · subst e
      have e1 : (i * k + j) / k = i := by
        rw [Nat.mul_comm, Nat.mul_add_div hk, Nat.div_eq_of_lt hj]; rfl
      have e2 : (i * k + j) % k = j := by
        rw [Nat.mul_comm, Nat.mul_add_mod, Nat.mod_eq_of_lt hj]
      simp [flat, hp, put2, e1, e2]
    · rw [if_neg e]
      have hne : ¬ (p / k = i ∧ p % k = j) := by
        rintro ⟨h1, h2⟩
        apply e
        rw [← h1, ← h2]
        have := Nat.div_add_mod p k
        rw [Nat.mul_comm] at this; exact this
      simp [flat, hp, put2, hne]
  · by_cases e : i * k + j = p
    · simp [flat, e, hp]
    · simp [flat, e, hp]

theorem flat_congr {k n : Nat} {f g : Nat → Nat → Value} (h : ∀ i j, i < n → j < k → f i j = g i j) : flat k n f = flat k n g := by
  unfold flat
  apply List.map_congr_left
  intro p hp
  have hp' : p < n * k := by simpa using hp
  have hk : 0 < k := by
    rcases Nat.eq_zero_or_pos k with h0 | h0
    · subst h0; omega
    · exact h0
  exact h _ _ (Nat.div_lt_of_lt_mul (by rw [Nat.mul_comm]; exact hp')) (Nat.mod_lt _ hk)

/-- A row of n cells by an index function. -/
def row (n : Nat) (f : Nat → Value) : List Value := (List.range n).map f
theorem row_get {n : Nat} (f : Nat → Value) {i : Nat} (hi : i < n) : (row n f)[i]? = some (f i) := by simp [row, hi]
def put1 (f : Nat → Value) (i : Nat) (v : Value) : Nat → Value := fun j => if j = i then v else f j
theorem row_set {n : Nat} (f : Nat → Value) (i : Nat) (v : Value) : (row n f).set i v = row n (put1 f i v) := by
  apply List.ext_getElem?
  intro p
  rw [List.getElem?_set]
  by_cases hp : p < n
  · by_cases e : i = p
    · subst e; simp [row, hp, put1]
    · rw [if_neg e]
      have : p ≠ i := fun h => e h.symm
      simp [row, hp, put1, this]
  · by_cases e : i = p
    · simp [row, e, hp]
    · simp [row, e, hp]
theorem row_congr {n : Nat} {f g : Nat → Value} (h : ∀ i, i < n → f i = g i) : row n f = row n g := by
  unfold row
  exact List.map_congr_left fun i hi => h i (by simpa using hi)

/-- A slice of ints that is only read, below block B. -/
def IntsAt (w : World) (B : Nat) (p : Option Addr) (len : Nat) : Prop :=
  ∀ j, j < len → ∃ b off x, p = some ⟨b, off, none⟩ ∧ b < B ∧ w.cell? ⟨b, off + j, none⟩ = some (.int .i64 x) ∧ -9223372036854775808 ≤ x ∧ x ≤ 9223372036854775807
theorem IntsAt.upd {w w' : World} {B : Nat} {p : Option Addr} {len : Nat} (h : IntsAt w B p len) (hB : B ≤ w.heap.size) (u : Upd [] w w') : IntsAt w' B p len := by
  intro j hj
  obtain ⟨b, off, x, h1, h2, h3, h4⟩ := h j hj
  exact ⟨b, off, x, h1, h2, by rw [u.cell (by show b < _; omega) (by simp)]; exact h3, h4⟩

/-- A slice of structs of three ints, that is only read, below block B. -/
def Ints3 (w : World) (B : Nat) (p : Option Addr) (len : Nat) : Prop :=
  ∀ i, i < len → ∃ b off k a s, p = some ⟨b, off, none⟩ ∧ b < B ∧ w.cell? ⟨b, off + i * 3, none⟩ = some (.int .i64 k) ∧ w.cell? ⟨b, off + i * 3 + 1, none⟩ = some (.int .i64 a) ∧ w.cell? ⟨b, off + i * 3 + 2, none⟩ = some (.int .i64 s) ∧
    (-9223372036854775808 ≤ k ∧ k ≤ 9223372036854775807) ∧ (-9223372036854775808 ≤ a ∧ a ≤ 9223372036854775807) ∧ (-9223372036854775808 ≤ s ∧ s ≤ 9223372036854775807)
theorem Ints3.upd {w w' : World} {B : Nat} {p : Option Addr} {len : Nat} (h : Ints3 w B p len) (hB : B ≤ w.heap.size) (u : Upd [] w w') : Ints3 w' B p len := by
  intro i hi
  obtain ⟨b, off, k, a, s, h1, h2, h3, h4, h5, h6⟩ := h i hi
  exact ⟨b, off, k, a, s, h1, h2, by rw [u.cell (by show b < _; omega) (by simp)]; exact h3, by rw [u.cell (by show b < _; omega) (by simp)]; exact h4, by rw [u.cell (by show b < _; omega) (by simp)]; exact h5, h6⟩

/-- x << c of a uint32. -/
def shl32 (x c : Int) : Int := IntKind.u32.wrap (x * 2 ^ min c.toNat 32)
theorem run_shl32 (P : Program) (x c : Int) (k : IntKind) (h : 0 ≤ c) (w : World) : (Op.shift .shl .u32 x k c).run P w = .ok (.int .u32 (shl32 x c)) w := by
  unfold Op.shift shl32
  rw [if_neg (by omega)]
  rfl
theorem shl32_bd (x c : Int) : 0 ≤ shl32 x c ∧ shl32 x c < 4294967296 := by
  unfold shl32; rw [IntKind.wrap_u32]; omega

/-- A quiet call in a second region that draws: the world is already 'w.drewN a'. -/
theorem quiet_second {P : Program} {f : FuncId} {args : Array Value} {w : World} {a n : Nat} {v : Value}
    (h : Calls P f args (w.drewN (a + n)) fun e w' => e = .returned v ∧ w.drewN (a + n) = w') :
    Calls P f args (w.drewN (a + n)) fun e w'' => e = .returned v ∧ ∃ m, w'' = w.drewN (a + m) :=
  h.mono fun _ _ ⟨he, hm⟩ => ⟨he, n, hm.symm⟩

theorem ret_int {k : IntKind} {a b : Int} (h : a = b) : Ending.returned (.int k a) = .returned (.int k b) := by rw [h]
theorem ret_bool {a b : Bool} (h : a = b) : Ending.returned (.bool a) = .returned (.bool b) := by rw [h]

end Go.Proofs.Ytppbaahaegmgeaa
