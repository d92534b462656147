/- KnotApart, whatever came in. -/
import Derived.Test.YtcfoplnickdekaaDoorKnQ
import Derived.Test.YtcfoplnickdekaaDoorKnS
namespace Go.Proofs.YtcfoplnickdekaaDoor
open Go.RowKit Go.ChangeShapes Go.WideShapes Go.Deep

theorem laid_apart {W : World} (hL : laidMetH Tryd.prog Rows.knotApartRow.laid W) (hS : W.ShapedOpen Tryd.prog) : LaidOk W := laid_knot hL hS

theorem apart_all (q0 : Option Addr) (len0 cap0 : Nat) (q1 : Option Addr) (len1 cap1 : Nat) (W : World) (h0 : BRows W W.heap.size q0 len0) (m0 : len0 ≤ maxLen) (h1 : BRows W W.heap.size q1 len1) (m1 : len1 ≤ maxLen) (hO : LaidOk W) :
    Calls Tryd.prog 3 #[.slice q0 len0 cap0, .slice q1 len1 cap1] W fun e W' => e = .returned (.bool true) ∧ Upd [] W W' :=
  apart_walk W q0 len0 cap0 h0 (Nat.le_trans m0 (by decide)) q1 len1 cap1 h1 (Nat.le_trans m1 (by decide)) hO.tab

end Go.Proofs.YtcfoplnickdekaaDoor
