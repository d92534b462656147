/- KnotKnown, as the row has it. -/
import Derived.Test.YtcfoplnickdekaaDoorKnZ
import Derived.Test.YtcfoplnickdekaaDoorKnQ
namespace Go.Proofs.YtcfoplnickdekaaDoor
open Go.RowKit Go.ChangeShapes Go.WideShapes Go.Deep

theorem laid_kknown {W : World} (hL : laidMetH Tryd.prog Rows.knotKnownRow.laid W) (hS : W.ShapedOpen Tryd.prog) : LaidOk W := laid_knot hL hS
theorem kknown_all (W : World) (hO : LaidOk W) : Calls Tryd.prog 6 #[] W fun e w' => e = .returned (.bool true) ∧ Upd [] W w' := kknown_walk W hO.tab

end Go.Proofs.YtcfoplnickdekaaDoor
