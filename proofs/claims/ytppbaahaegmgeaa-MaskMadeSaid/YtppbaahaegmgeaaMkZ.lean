/- MaskMade, whatever came in. -/
import Derived.Test.YtppbaahaegmgeaaMkY
import Derived.Test.YtppbaahaegmgeaaMkQ
namespace Go.Proofs.Ytppbaahaegmgeaa
open Go.RowKit Go.ChangeShapes Go.WideShapes Go.Deep

theorem made_all (G0 : Nat → Int) (a1 s1 r1 : Int) (q2 : Option Addr) (cap2 : Nat) (xs2 : List Int) (W : World) (hG0 : RngF G0) (ia : I64 a1) (is : I64 s1) (ir : I64 r1) (h2 : BytesAt W (.slice q2 xs2.length cap2) xs2) (m2 : xs2.length ≤ maxLen) (c2 : xs2.length ≤ cap2) :
    Calls Try.prog 5 #[.agg (row32 G0).toArray, .agg #[.int .i64 a1, .int .i64 s1, .int .i64 r1], .slice q2 xs2.length cap2] W fun e W' => e = .returned (.bool true) ∧ Upd [] W W' :=
  mmade_walk W G0 hG0 a1 s1 r1 ia is ir q2 xs2 cap2 h2.by_ h2.1 (Nat.le_trans m2 (by decide)) c2

end Go.Proofs.Ytppbaahaegmgeaa
