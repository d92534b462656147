/- Bytes that came in; EqBytes; RoadTurns. -/
import Derived.Test.YtceeekdephgcmaaRdH
import Derived.Test.YtceeekdephgcmaaOpen
namespace Go.Proofs.Ytceeekdephgcmaa
open Go.RowKit Go.ChangeShapes Go.WideShapes Go.Deep

/-- A slice of bytes at whatever level of an argument. -/
theorem trod_bytes {H : Type} {enc : TypeId × Value → H} {P : Program} {W : World} {held : Bool} {T E : TypeId} {m : Nat} {u : Value} {y : DataW H × List MemPlace} (hT : P.underlying T = some (.slice E)) (hE : P.underlying E = some (.int .u8)) (hc : P.cellsOf E = 1)
    (h : DataW.trod enc P W 0 (fun _ => true) held m T [u] = some y) :
    ∃ xs : List Int, BytesAt W u xs ∧ xs.length ≤ maxLen ∧ ∃ p c, u = .slice p xs.length c ∧ xs.length ≤ c := by
  rcases open_ints hT hE hc h with ⟨hcs, _⟩ | ⟨x, l, c, zs, hcs, _, hl, hm, hz, _, hcell, hwz⟩
  · simp at hcs
    subst hcs
    exact ⟨[], ⟨by simp, .inl ⟨rfl, rfl⟩⟩, by simp, none, 0, rfl, by simp⟩
  · simp at hcs
    subst hcs
    have hz' : zs.length = c := by simpa using hz
    have hlen : (zs.take l).length = l := by rw [List.length_take, Nat.min_eq_left (by omega)]
    refine ⟨zs.take l, ⟨fun x hx => ?_, .inr ⟨x, c, by rw [hlen], fun i hi => ?_⟩⟩, by rw [hlen]; omega, some x, c, by rw [hlen], by rw [hlen]; omega⟩
    · have := hwz x (List.mem_of_mem_take hx)
      simp [Lit.wf, IntKind.min, IntKind.max, IntKind.signed, IntKind.bits] at this
      omega
    · rw [List.length_take] at hi
      rw [hcell i (by omega)]
      rw [List.getD_eq_getElem?_getD, List.getD_eq_getElem?_getD, List.getElem?_take, if_pos (by omega)]

theorem open_bytes {H : Type} {enc : TypeId × Value → H} {P : Program} {W : World} {held : Bool} {r : Reach} {b0 : Nat} {T E : TypeId} {v : Value} {d : DataW H} {p : List MemPlace} (hT : P.underlying T = some (.slice E)) (hE : P.underlying E = some (.int .u8)) (hc : P.cellsOf E = 1)
    (ok : Value.okWide P W r b0 T v) (h : DataW.Trod enc P W 0 (fun _ => true) held T v d p) :
    ∃ xs : List Int, BytesAt W v xs ∧ xs.length ≤ maxLen ∧ ∃ p c, v = .slice p xs.length c ∧ xs.length ≤ c := by
  obtain ⟨a0, len0, cap0, rfl⟩ := okWide_slice hT ok
  obtain ⟨fuel, hf⟩ := h
  exact trod_bytes hT hE hc (by simpa [Value.cells] using hf)

theorem BytesAt.form {w : World} {v : Value} {xs : List Int} (h : BytesAt w v xs) : ∃ p c, v = .slice p xs.length c := by
  rcases h.2 with ⟨h1, h2⟩ | ⟨a, c, h1, _⟩
  · exact ⟨none, 0, by rw [h1, h2]; rfl⟩
  · exact ⟨some a, c, h1⟩

theorem BytesAt.spot {w : World} {p : Option Addr} {n c : Nat} {xs : List Int} (h : BytesAt w (.slice p n c) xs) (h0 : 0 < xs.length) : ∃ b o, p = some ⟨b, o, none⟩ ∧ b < w.heap.size ∧ ∀ i x, xs[i]? = some x → w.cell? ⟨b, o + i, none⟩ = some (.int .u8 x) := by
  rcases h.2 with ⟨h1, h2⟩ | ⟨a, c', h1, h2⟩
  · subst h2; simp at h0
  · simp at h1
    obtain ⟨rfl, _, rfl⟩ := h1
    have ha := spot_at (h2 0 h0)
    have hl := lt_of_cell (h2 0 h0)
    rw [add_block] at hl
    refine ⟨a.block, a.off, by rw [← ha], hl, fun i x hi => ?_⟩
    have hi' : i < xs.length := (List.getElem?_eq_some_iff.1 hi).1
    have := add_at (h2 i hi')
    rw [this, List.getD_eq_getElem?_getD, hi]; rfl

theorem take_snoc_eq {xs ys : List Int} {i : Nat} {x : Int} (h : xs.take i = ys.take i) (hx : xs[i]? = some x) (hy : ys[i]? = some x) : xs.take (i + 1) = ys.take (i + 1) := by
  rw [List.take_add_one, List.take_add_one, h, hx, hy]

set_option maxRecDepth 100000 in
theorem eq_any {w : World} {u v : Value} {xs ys : List Int} (hu : BytesAt w u xs) (hv : BytesAt w v ys) (hx : xs.length ≤ maxLen) :
    Calls Try.prog 16 #[u, v] w fun e w' => e = .returned (.bool (decide (xs = ys))) ∧ Upd [] w w' := by
  obtain ⟨p, c, rfl⟩ := hu.form
  obtain ⟨q, d, rfl⟩ := hv.form
  have hx' : xs.length ≤ 9223372036854775807 := hx
  by_cases hl : xs.length = ys.length
  · go_enter Try.func16, Try.ntmps16
    rw [← hl]
    go_wp2_with fail
    go_loopw [5] (fun iv wr => ∃ i : Nat, i ≤ xs.length ∧ iv = .int .i64 i ∧ Hid (xs.take i = ys.take i) ∧ Upd [] w wr) (fun iv _ => xs.length - (intOf iv).toNat)
    case atStart => exact ⟨0, by omega, rfl, Lib.hid rfl, Upd.refl _ _⟩
    case round =>
      obtain ⟨i, hi, rfl, hno, huw⟩ := hrel
      by_cases hlt : i < xs.length
      · obtain ⟨b1, o1, rfl, _, k1⟩ := (hu.frame huw (by simp)).spot (by omega)
        obtain ⟨b2, o2, rfl, _, k2⟩ := (hv.frame huw (by simp)).spot (by omega)
        obtain ⟨x, hxi⟩ : ∃ x, xs[i]? = some x := ⟨_, List.getElem?_eq_getElem hlt⟩
        obtain ⟨y, hyi⟩ : ∃ y, ys[i]? = some y := ⟨_, List.getElem?_eq_getElem (by omega)⟩
        have c1 := k1 i x hxi
        have c2 := k2 i y hyi
        have Hxi := Lib.hid hxi; clear hxi
        have Hyi := Lib.hid hyi; clear hyi
        clear k1 k2 hu hv
        by_cases e : x = y
        · subst e
          go_wp2_with fail
          go_region
          go_wp2_with fail
          exact ⟨⟨i + 1, by omega, by go_num, Lib.hid (take_snoc_eq hno.out Hxi.out Hyi.out), (by first | exact huw | exact huw.drew)⟩, by simp [intOf]; omega⟩
        · have e' : (x == y) = false := by simpa using e
          go_wp2_with fail
          go_region
          go_wp2_with fail
          go_ret
          exact ⟨ret_bool (decide_eq_false (fun h => e (by have := Hxi.out; rw [h, Hyi.out] at this; exact (Option.some.inj this).symm))).symm, (by first | exact huw | exact huw.drew)⟩
      · obtain rfl : i = xs.length := by omega
        go_wp2_with fail
        go_ret
        refine ⟨ret_bool (decide_eq_true ?_).symm, huw⟩
        have := hno.out
        rw [List.take_of_length_le (Nat.le_refl _), List.take_of_length_le (by omega)] at this
        exact this
  · have hl' : ((xs.length : Int) == (ys.length : Int)) = false := by simp; omega
    go_enter Try.func16, Try.ntmps16
    go_wp2_with fail
    go_ret
    exact ⟨ret_bool (decide_eq_false (fun h => hl (by rw [h]))).symm, Upd.refl _ _⟩

end Go.Proofs.Ytceeekdephgcmaa
