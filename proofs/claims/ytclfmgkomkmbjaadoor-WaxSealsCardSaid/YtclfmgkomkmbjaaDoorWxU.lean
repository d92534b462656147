/- WaxSeals, whatever came in. -/
import Derived.Test.YtclfmgkomkmbjaaDoorWxG
import Derived.Test.YtclfmgkomkmbjaaDoorWxT
namespace Go.Proofs.YtclfmgkomkmbjaaDoor
open Go.RowKit Go.ChangeShapes Go.WideShapes Go.Deep

theorem laid_seals {W : World} (hL : laidMetH Tryd.prog Rows.waxSealsRow.laid W) (hS : W.ShapedOpen Tryd.prog) : LaidOk W := laid_same hL hS
theorem seals_all (q0 : Option Addr) (cap0 : Nat) (xs0 : List Int) (q1 : Option Addr) (cap1 : Nat) (xs1 : List Int) (q2 : Option Addr) (cap2 : Nat) (xs2 : List Int) (W : World) (h0 : BytesAt W (.slice q0 xs0.length cap0) xs0) (m0 : xs0.length ≤ maxLen) (c0 : xs0.length ≤ cap0)
    (h1 : BytesAt W (.slice q1 xs1.length cap1) xs1) (m1 : xs1.length ≤ maxLen) (c1 : xs1.length ≤ cap1) (h2 : BytesAt W (.slice q2 xs2.length cap2) xs2) (m2 : xs2.length ≤ maxLen) (c2 : xs2.length ≤ cap2) (hO : LaidOk W) :
    Calls Tryd.prog 5 #[.slice q0 xs0.length cap0, .slice q1 xs1.length cap1, .slice q2 xs2.length cap2] W fun e W' => e = .returned (.bool true) ∧ Upd [] W W' :=
  seals_walk W q0 xs0 cap0 h0.by_ h0.1 (Nat.le_trans m0 (by decide)) c0 q1 xs1 cap1 h1.by_ h1.1 (Nat.le_trans m1 (by decide)) c1 q2 xs2 cap2 h2.by_ h2.1 (Nat.le_trans m2 (by decide)) c2 hO.tab

end Go.Proofs.YtclfmgkomkmbjaaDoor
