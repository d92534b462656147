/- MaskStream, whatever came in. -/
import Derived.Test.YtppbaahaegmgeaaMkR
import Derived.Test.YtppbaahaegmgeaaMkQ
namespace Go.Proofs.Ytppbaahaegmgeaa
open Go.RowKit Go.ChangeShapes Go.WideShapes Go.Deep

/-- Two rows of bytes that came in, in an array. -/
theorem open_two {H : Type} {enc : TypeId × Value → H} {P : Program} {W : World} {held : Bool} {r : Reach} {b0 : Nat} {T S E : TypeId} {v : Value} {d : DataW H} {p : List MemPlace} (hT : P.underlying T = some (.array 2 S)) (hS : P.underlying S = some (.slice E)) (hE : P.underlying E = some (.int .u8)) (hc : P.cellsOf S = 1) (hce : P.cellsOf E = 1) (hc2 : P.cellsOf T = 2)
    (ok : Value.okWide P W r b0 T v) (h : DataW.Trod enc P W 0 (fun _ => true) held T v d p) :
    ∃ xs p0 c0 ys p1 c1, v = .agg #[.slice p0 xs.length c0, .slice p1 ys.length c1] ∧ BytesAt W (.slice p0 xs.length c0) xs ∧ xs.length ≤ maxLen ∧ xs.length ≤ c0 ∧ BytesAt W (.slice p1 ys.length c1) ys ∧ ys.length ≤ maxLen ∧ ys.length ≤ c1 := by
  simp only [Value.okWide, hT] at ok
  obtain ⟨cs, rfl, hsz, _⟩ := ok
  obtain ⟨fuel, hf⟩ := h
  obtain ⟨xs, m, rfl, _, _, hxl, hx⟩ := DataW.trod_array hT hf
  rw [hc2] at hsz
  obtain ⟨l⟩ := cs
  simp at hsz
  match l, hsz with
  | [u0, u1], _ =>
    have t0 := hx 0 (by omega)
    have t1 := hx 1 (by omega)
    rw [hc, List.getElem?_eq_getElem (by omega)] at t0 t1
    simp only [Value.cells] at t0 t1
    obtain ⟨zs, hb, hl, p0, c0, rfl, hlc⟩ := trod_bytes hS hE hce (u := u0) (by simpa using t0)
    obtain ⟨ws, hb1, hl1, p1, c1, rfl, hlc1⟩ := trod_bytes hS hE hce (u := u1) (by simpa using t1)
    exact ⟨zs, p0, c0, ws, p1, c1, rfl, hb, hl, hlc, hb1, hl1, hlc1⟩

theorem mstream_all (G0 : Nat → Int) (a1 s1 r1 : Int) (xs : List Int) (p0 : Option Addr) (c0 : Nat) (ys : List Int) (p1 : Option Addr) (c1 : Nat) (W : World) (hG0 : RngF G0) (ia : I64 a1) (is : I64 s1) (ir : I64 r1)
    (h0 : BytesAt W (.slice p0 xs.length c0) xs) (m0 : xs.length ≤ maxLen) (l0 : xs.length ≤ c0) (h1 : BytesAt W (.slice p1 ys.length c1) ys) (m1 : ys.length ≤ maxLen) (l1 : ys.length ≤ c1) :
    Calls Try.prog 4 #[.agg (row32 G0).toArray, .agg #[.int .i64 a1, .int .i64 s1, .int .i64 r1], .agg #[.slice p0 xs.length c0, .slice p1 ys.length c1]] W fun e W' => e = .returned (.bool true) ∧ Upd [] W W' :=
  mstream_walk W G0 hG0 a1 s1 r1 ia is ir p0 xs c0 h0.by_ h0.1 (Nat.le_trans m0 (by decide)) l0 p1 ys c1 h1.by_ h1.1 (Nat.le_trans m1 (by decide)) l1

end Go.Proofs.Ytppbaahaegmgeaa
