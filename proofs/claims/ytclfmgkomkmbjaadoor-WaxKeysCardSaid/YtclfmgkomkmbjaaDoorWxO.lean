/- WaxKeys, whatever came in. -/
import Derived.Test.YtclfmgkomkmbjaaDoorWxG
import Derived.Test.YtclfmgkomkmbjaaDoorWxN
namespace Go.Proofs.YtclfmgkomkmbjaaDoor
open Go.RowKit Go.ChangeShapes Go.WideShapes Go.Deep

theorem laid_keys {W : World} (hL : laidMetH Tryd.prog Rows.waxKeysRow.laid W) (hS : W.ShapedOpen Tryd.prog) : LaidOk W := laid_same hL hS
theorem keys_all (q0 : Option Addr) (cap0 : Nat) (xs0 : List Int) (q1 : Option Addr) (cap1 : Nat) (xs1 : List Int) (z : Int) (W : World) (h0 : BytesAt W (.slice q0 xs0.length cap0) xs0) (m0 : xs0.length ≤ maxLen) (c0 : xs0.length ≤ cap0)
    (h1 : BytesAt W (.slice q1 xs1.length cap1) xs1) (m1 : xs1.length ≤ maxLen) (c1 : xs1.length ≤ cap1) (ha : -9223372036854775808 ≤ z) (hb : z ≤ 9223372036854775807) (hO : LaidOk W) :
    Calls Tryd.prog 3 #[.slice q0 xs0.length cap0, .slice q1 xs1.length cap1, .int .i64 z] W fun e W' => e = .returned (.bool true) ∧ Upd [] W W' :=
  keys_walk W q0 xs0 cap0 h0.by_ h0.1 (Nat.le_trans m0 (by decide)) c0 q1 xs1 cap1 h1.by_ h1.1 (Nat.le_trans m1 (by decide)) c1 z ha hb hO.tab

end Go.Proofs.YtclfmgkomkmbjaaDoor
