/- MaskKnown, as the row has it. -/
import Derived.Test.YtppbaahaegmgeaaMkKn
namespace Go.Proofs.Ytppbaahaegmgeaa
open Go.RowKit

theorem known_all (W : World) : Calls Try.prog 9 #[] W fun e W' => e = .returned (.bool true) ∧ Upd [] W W' := mknown_walk W

end Go.Proofs.Ytppbaahaegmgeaa
