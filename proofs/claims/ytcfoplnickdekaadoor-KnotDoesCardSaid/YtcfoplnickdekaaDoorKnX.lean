/- KnotDoes, whatever came in. -/
import Derived.Test.YtcfoplnickdekaaDoorKnQ
import Derived.Test.YtcfoplnickdekaaDoorKnW
namespace Go.Proofs.YtcfoplnickdekaaDoor
open Go.RowKit Go.ChangeShapes Go.WideShapes Go.Deep

theorem laid_does {W : World} (hL : laidMetH Tryd.prog Rows.knotDoesRow.laid W) (hS : W.ShapedOpen Tryd.prog) : LaidOk W := laid_knot hL hS

theorem does_all (q0 : Option Addr) (len0 cap0 : Nat) (W : World) (h0 : BRows W W.heap.size q0 len0) (m0 : len0 ≤ maxLen) (hO : LaidOk W) :
    Calls Tryd.prog 4 #[.slice q0 len0 cap0] W fun e W' => e = .returned (.bool true) ∧ Upd [] W W' :=
  does_walk W q0 len0 cap0 h0 (Nat.le_trans m0 (by decide)) hO.tab

end Go.Proofs.YtcfoplnickdekaaDoor
