/- WaxParts, whatever came in. -/
import Derived.Test.YtclfmgkomkmbjaaDoorWxG
import Derived.Test.YtclfmgkomkmbjaaDoorWxH
import Derived.OpenShut
namespace Go.Proofs.YtclfmgkomkmbjaaDoor
open Go.RowKit Go.ChangeShapes Go.WideShapes Go.Deep

theorem laid_wparts {W : World} (hL : laidMetH Tryd.prog Rows.waxPartsRow.laid W) (hS : W.ShapedOpen Tryd.prog) : LaidOk W := laid_same hL hS

/-- An array of two ints. -/
theorem open_i2 {H : Type} {enc : TypeId × Value → H} {P : Program} {W : World} {held : Bool} {r : Reach} {b0 : Nat} {T E : TypeId} {v : Value} {d : DataW H} {p : List MemPlace} (hT : P.underlying T = some (.array 2 E)) (hE : P.underlying E = some (.int .i64)) (hc : P.cellsOf E = 1) (hc2 : P.cellsOf T = 2)
    (ok : Value.okWide P W r b0 T v) (h : DataW.Trod enc P W 0 (fun _ => true) held T v d p) :
    ∃ a b, v = .agg #[.int .i64 a, .int .i64 b] ∧ (-9223372036854775808 ≤ a ∧ a ≤ 9223372036854775807) ∧ (-9223372036854775808 ≤ b ∧ b ≤ 9223372036854775807) := by
  simp only [Value.okWide, hT] at ok
  obtain ⟨cs, rfl, hsz, _⟩ := ok
  obtain ⟨fuel, hf⟩ := h
  obtain ⟨xs, m, rfl, _, _, hxl, hx⟩ := DataW.trod_array hT hf
  rw [hc2] at hsz
  obtain ⟨l⟩ := cs
  simp at hsz
  match l, hsz with
  | [u0, u1], _ =>
    have t0 := hx 0 (by omega)
    have t1 := hx 1 (by omega)
    rw [hc, List.getElem?_eq_getElem (by omega)] at t0 t1
    simp only [Value.cells] at t0 t1
    obtain ⟨a, e0, _, w0⟩ := DataW.trod_int hE t0
    obtain ⟨b, e1, _, w1⟩ := DataW.trod_int hE t1
    obtain rfl : u0 = .int .i64 a := by simpa using e0
    obtain rfl : u1 = .int .i64 b := by simpa using e1
    exact ⟨a, b, rfl, wf_i64 w0, wf_i64 w1⟩

theorem parts_all (q0 : Option Addr) (cap0 : Nat) (xs0 : List Int) (q1 : Option Addr) (cap1 : Nat) (xs1 : List Int) (a b : Int) (W : World) (h0 : BytesAt W (.slice q0 xs0.length cap0) xs0) (m0 : xs0.length ≤ maxLen) (c0 : xs0.length ≤ cap0)
    (h1 : BytesAt W (.slice q1 xs1.length cap1) xs1) (m1 : xs1.length ≤ maxLen) (c1 : xs1.length ≤ cap1) (ha : -9223372036854775808 ≤ a ∧ a ≤ 9223372036854775807) (hb : -9223372036854775808 ≤ b ∧ b ≤ 9223372036854775807) (hO : LaidOk W) :
    Calls Tryd.prog 4 #[.slice q0 xs0.length cap0, .slice q1 xs1.length cap1, .agg #[.int .i64 a, .int .i64 b]] W fun e W' => e = .returned (.bool true) ∧ Upd [] W W' :=
  parts_walk W q0 xs0 cap0 h0.by_ h0.1 (Nat.le_trans m0 (by decide)) c0 q1 xs1 cap1 h1.by_ h1.1 (Nat.le_trans m1 (by decide)) c1 a b ha hb hO.tab

end Go.Proofs.YtclfmgkomkmbjaaDoor
