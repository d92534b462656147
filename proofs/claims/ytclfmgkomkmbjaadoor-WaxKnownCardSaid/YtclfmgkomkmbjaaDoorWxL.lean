/- WaxKnown. -/
import Derived.Test.YtclfmgkomkmbjaaDoorWxG
import Derived.Test.YtclfmgkomkmbjaaDoorWxK
namespace Go.Proofs.YtclfmgkomkmbjaaDoor
open Go.RowKit Go.ChangeShapes Go.WideShapes Go.Deep

theorem laid_wknown {W : World} (hL : laidMetH Tryd.prog Rows.waxKnownRow.laid W) (hS : W.ShapedOpen Tryd.prog) : LaidOk W := laid_same hL hS
theorem known_all (W : World) (hO : LaidOk W) : Calls Tryd.prog 7 #[] W fun e W' => e = .returned (.bool true) ∧ Upd [] W W' := known_walk W hO.tab

end Go.Proofs.YtclfmgkomkmbjaaDoor
