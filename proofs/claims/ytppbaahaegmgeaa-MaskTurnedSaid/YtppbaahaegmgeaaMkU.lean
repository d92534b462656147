/- MaskTurned, whatever came in. -/
import Derived.Test.YtppbaahaegmgeaaMkT
import Derived.Test.YtppbaahaegmgeaaMkQ
namespace Go.Proofs.Ytppbaahaegmgeaa
open Go.RowKit Go.ChangeShapes Go.WideShapes Go.Deep

/-- An array of three ints. -/
theorem open_i3 {H : Type} {enc : TypeId × Value → H} {P : Program} {W : World} {held : Bool} {r : Reach} {b0 : Nat} {T E : TypeId} {v : Value} {d : DataW H} {p : List MemPlace} (hT : P.underlying T = some (.array 3 E)) (hE : P.underlying E = some (.int .i64)) (hc : P.cellsOf E = 1) (hc2 : P.cellsOf T = 3)
    (ok : Value.okWide P W r b0 T v) (h : DataW.Trod enc P W 0 (fun _ => true) held T v d p) :
    ∃ a b c, v = .agg #[.int .i64 a, .int .i64 b, .int .i64 c] ∧ I64 a ∧ I64 b ∧ I64 c := by
  simp only [Value.okWide, hT] at ok
  obtain ⟨cs, rfl, hsz, _⟩ := ok
  obtain ⟨fuel, hf⟩ := h
  obtain ⟨xs, m, rfl, _, _, hxl, hx⟩ := DataW.trod_array hT hf
  rw [hc2] at hsz
  obtain ⟨l⟩ := cs
  simp at hsz
  match l, hsz with
  | [u0, u1, u2], _ =>
    have t0 := hx 0 (by omega)
    have t1 := hx 1 (by omega)
    have t2 := hx 2 (by omega)
    rw [hc, List.getElem?_eq_getElem (by omega)] at t0 t1 t2
    simp only [Value.cells] at t0 t1 t2
    obtain ⟨a, e0, _, w0⟩ := DataW.trod_int hE t0
    obtain ⟨b, e1, _, w1⟩ := DataW.trod_int hE t1
    obtain ⟨c, e2, _, w2⟩ := DataW.trod_int hE t2
    obtain rfl : u0 = .int .i64 a := by simpa using e0
    obtain rfl : u1 = .int .i64 b := by simpa using e1
    obtain rfl : u2 = .int .i64 c := by simpa using e2
    exact ⟨a, b, c, rfl, wf_i64 w0, wf_i64 w1, wf_i64 w2⟩

theorem mturned_all (G0 : Nat → Int) (q2 : Option Addr) (cap2 : Nat) (xs2 : List Int) (a b c : Int) (W : World) (hG0 : RngF G0) (h2 : BytesAt W (.slice q2 xs2.length cap2) xs2) (m2 : xs2.length ≤ maxLen) (c2 : xs2.length ≤ cap2) (ia : I64 a) (ib : I64 b) (ic : I64 c) :
    Calls Try.prog 7 #[.agg (row32 G0).toArray, .slice q2 xs2.length cap2, .agg #[.int .i64 a, .int .i64 b, .int .i64 c]] W fun e W' => e = .returned (.bool true) ∧ Upd [] W W' :=
  mturned_walk W G0 hG0 q2 xs2 cap2 h2.by_ h2.1 (Nat.le_trans m2 (by decide)) c2 a b c ia ib ic

end Go.Proofs.Ytppbaahaegmgeaa
