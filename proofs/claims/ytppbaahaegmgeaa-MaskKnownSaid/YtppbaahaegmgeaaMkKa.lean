/- What MaskKnown calls. -/
import Derived.Test.YtppbaahaegmgeaaMkK2
import Derived.Test.YtppbaahaegmgeaaMkO
namespace Go.Proofs.Ytppbaahaegmgeaa
open Go.RowKit

theorem nonce_z : NonceOk [0, 0, 0] := by unfold NonceOk okU; decide
/-- So many bytes 0. -/
def zerosI (n : Nat) : List Int := List.replicate n 0
theorem zerosI_len (n : Nat) : (zerosI n).length = n := List.length_replicate
theorem zerosI_rng (n : Nat) : Rng (zerosI n) := fun x hx => by
  obtain rfl := (List.mem_replicate.1 hx).2
  omega
theorem zerosI_at {w : World} {b n : Nat} {T : TypeId} (h : Blk w b (brow n fun _ => 0) T) : ByAt w (some ⟨b, 0, none⟩) (zerosI n) :=
  ByAt.of_blk h (fun i x hx => by
    have hi : i < n := by
      have := (List.getElem?_eq_some_iff.1 hx).1
      rwa [zerosI_len] at this
    unfold zerosI at hx
    rw [List.getElem?_replicate, if_pos hi] at hx
    cases hx
    rw [Nat.zero_add]
    exact brow_get _ hi)

/-- What is sealed of so many bytes 0. -/
def sealZ (n : Nat) : List Int := sealL G9 (rowsI [0, 0, 0]) (zerosI n)
theorem sealZ_len (n : Nat) : (sealZ n).length = n + 16 := by unfold sealZ; rw [sealL_len, zerosI_len]

theorem k_seal (n m : Nat) (hm : n + 16 = m) (hn : n ≤ 65536) (W : World) (p : Option Addr) (c : Nat) (h : ByAt W p (zerosI n)) (hc : n ≤ c) :
    Calls Try.prog 11 #[.agg (row32 G9).toArray, .agg #[.int .i64 0, .int .i64 0, .int .i64 0], .slice p n c] W fun e w' =>
      ∃ p' c', e = .returned (.tuple #[.slice p' m c', .int .i64 0]) ∧ ByAt w' p' (sealZ n) ∧ m ≤ c' ∧ Upd [] W w' := by
  subst hm
  have := seal_ok W G9 G9_rng 0 0 0 nonce_z p (zerosI n) c h (zerosI_rng n) (by rw [zerosI_len]; exact hn) (by rw [zerosI_len]; exact hc)
  rw [zerosI_len] at this
  exact this.mono fun e w' ⟨p', c', he, ho, hu⟩ => ⟨p', c', he, ho.at_, own_cap ho, hu⟩
theorem k_open (n m : Nat) (hm : n + 16 = m) (hn : n ≤ 65536) (W : World) (p : Option Addr) (c : Nat) (h : ByAt W p (sealZ n)) (hc : m ≤ c) :
    Calls Try.prog 14 #[.agg (row32 G9).toArray, .agg #[.int .i64 0, .int .i64 0, .int .i64 0], .slice p m c] W fun e w' =>
      ∃ p' c', e = .returned (.tuple #[.slice p' n c', .int .i64 0]) ∧ ByAt w' p' (zerosI n) ∧ Upd [] W w' := by
  subst hm
  have := open_ok W G9 G9_rng 0 0 0 nonce_z p (sealZ n) c h (sealL_rng _ _ _) (by rw [sealZ_len]; exact hc) n (sealZ_len n) hn
  have e1 : (sealZ n).take n = outL G9 (rowsI [0, 0, 0]) (zerosI n) := by
    have := sealL_take G9 (rowsI [0, 0, 0]) (zerosI n)
    rw [zerosI_len] at this
    exact this
  have e2 : (sealZ n).drop n = tagL G9 (rowsI [0, 0, 0]) (outL G9 (rowsI [0, 0, 0]) (zerosI n)) := by
    have := sealL_drop G9 (rowsI [0, 0, 0]) (zerosI n)
    rw [zerosI_len] at this
    exact this
  rw [sealZ_len, e1, e2, outL_twice _ _ _ (zerosI_rng n)] at this
  exact this.mono fun e w' ⟨_, h2, hu⟩ => by
    obtain ⟨p', c', he, ho⟩ := h2 rfl
    exact ⟨p', c', he, ho.at_, hu⟩
theorem k_signed (W : World) (b : Nat) (T : TypeId) (h : Blk W b (brow 31 fun _ => 0) T) :
    Calls Try.prog 24 #[.agg (row32 G9).toArray, .slice (some ⟨b, 0, none⟩) 31 31] W fun e w' => e = .returned (.tuple #[.slice none 0 0, .int .i64 3]) ∧ Upd [] W w' := by
  have := signed_walk W G9 G9_rng (some ⟨b, 0, none⟩) (zerosI 31) 31 (zerosI_at h) (zerosI_rng 31) (by rw [zerosI_len]; omega) (by rw [zerosI_len]; omega)
  rw [zerosI_len] at this
  exact this.mono fun e w' ⟨h1, _, _, hu⟩ => ⟨h1 (by omega), hu⟩
theorem k_eq (n : Nat) (hn : n ≤ 65536) (W : World) (p q : Option Addr) (c d : Nat) (hp : ByAt W p (zerosI n)) (hq : ByAt W q (zerosI n)) :
    Calls Try.prog 16 #[.slice p n c, .slice q n d] W fun e w' => e = .returned (.bool true) ∧ Upd [] W w' := by
  have := eqb_gen W p (zerosI n) c q (zerosI n) d hp hq (zerosI_rng n) (zerosI_rng n) (by rw [zerosI_len]; omega) (by rw [zerosI_len]; omega)
  rw [zerosI_len, decide_eq_true rfl] at this
  exact this

/-- The nonces that may not be. -/
def badN (i j : Nat) : Int := ([-1, 0, 0, 0, -1, 0, 0, 0, -1, 9007199254740992, 0, 0, 0, 0, 9007199254740992] : List Int).getD (i * 3 + j) 0
theorem badN_no : ∀ i, i < 5 → ¬ NonceOk [badN i 0, badN i 1, badN i 2] := by
  unfold NonceOk okU
  decide
theorem badN_at {w : World} {b : Nat} {T : TypeId} (h : Blk w b ([-1, 0, 0, 0, -1, 0, 0, 0, -1, 9007199254740992, 0, 0, 0, 0, 9007199254740992].map fun x => .int .i64 x) T) (i : Nat) (hi : i < 5) :
    w.cell? ⟨b, i * 3, none⟩ = some (.int .i64 (badN i 0)) ∧ w.cell? ⟨b, i * 3 + 1, none⟩ = some (.int .i64 (badN i 1)) ∧ w.cell? ⟨b, i * 3 + 2, none⟩ = some (.int .i64 (badN i 2)) := by
  match i, hi with
  | 0, _ => exact ⟨h.cell _ rfl, h.cell _ rfl, h.cell _ rfl⟩
  | 1, _ => exact ⟨h.cell _ rfl, h.cell _ rfl, h.cell _ rfl⟩
  | 2, _ => exact ⟨h.cell _ rfl, h.cell _ rfl, h.cell _ rfl⟩
  | 3, _ => exact ⟨h.cell _ rfl, h.cell _ rfl, h.cell _ rfl⟩
  | 4, _ => exact ⟨h.cell _ rfl, h.cell _ rfl, h.cell _ rfl⟩
  | i + 5, hi => exact absurd hi (by omega)

/-- A row of bytes, known but for where it lies; and with what was answered beside it. -/
def isRow (m : Nat) (X : List Int) : Spec3 := .is (fun v w => ∃ p c, v = .slice p m c ∧ ByAt w p X ∧ m ≤ c)
  (fun _ _ _ h u => h.elim fun p h => h.elim fun c h => ⟨p, c, h.1, h.2.1.upd_nil u, h.2.2⟩)
def isSealed (m : Nat) (X : List Int) : Spec3 := .is (fun v w => ∃ p c, v = .tuple #[.slice p m c, .int .i64 0] ∧ ByAt w p X ∧ m ≤ c)
  (fun _ _ _ h u => h.elim fun p h => h.elim fun c h => ⟨p, c, h.1, h.2.1.upd_nil u, h.2.2⟩)
theorem hmkZ (n : Nat) (hn : n ≤ 1000000) (L : List Value) (hL : (brow n fun _ => 0) = L) (w : World) : (Instr.makeSlice 26 (.int .i64 n) (.int .i64 n)).run Try.prog w = .ok (.slice (some ⟨w.heap.size, 0, none⟩) n n) (w.alloc (.cells L.toArray 5)) := by
  rw [← hL]; exact mk_u8 n hn w
theorem newZ (n : Nat) (L : List Value) (hL : (brow n fun _ => 0) = L) (w : World) : ByAt (w.alloc (.cells L.toArray 5)) (some ⟨w.heap.size, 0, none⟩) (zerosI n) := by
  have := Blk.new w L.toArray 5
  simp only [List.toList_toArray] at this
  rw [← hL] at this
  rw [← hL]
  exact zerosI_at this

end Go.Proofs.Ytppbaahaegmgeaa
