/- What is known of a number, or a truth value, that came in. No program in sight. -/
import Derived.Test.YtppbaahaegmgeaaOpen
namespace Go.Proofs.Ytppbaahaegmgeaa
open Go.RowKit Go.ChangeShapes Go.WideShapes Go.Deep

section
variable {H : Type} {enc : TypeId × Value → H} {P : Program} {W : World} {spare : Nat → Bool} {held : Bool} {b0 : Nat} {r : Reach} {base : Nat}

theorem open_i64 {T : TypeId} {v : Value} {d : DataW H} {p : List MemPlace} (hT : P.underlying T = some (.int .i64)) (ok : Value.okWide P W r b0 T v) (h : DataW.Trod enc P W base spare held T v d p) :
    ∃ n, v = .int .i64 n ∧ -9223372036854775808 ≤ n ∧ n ≤ 9223372036854775807 := by
  obtain ⟨n, rfl, _, _, hw⟩ := Go.ChangeShapes.open_int hT ok h
  exact ⟨n, rfl, wf_i64 hw⟩

theorem open_u8 {T : TypeId} {v : Value} {d : DataW H} {p : List MemPlace} (hT : P.underlying T = some (.int .u8)) (ok : Value.okWide P W r b0 T v) (h : DataW.Trod enc P W base spare held T v d p) :
    ∃ n, v = .int .u8 n ∧ 0 ≤ n ∧ n ≤ 255 := by
  obtain ⟨n, rfl, _, _, hw⟩ := Go.ChangeShapes.open_int hT ok h
  simp [Lit.wf, IntKind.min, IntKind.max, IntKind.signed, IntKind.bits] at hw
  exact ⟨n, rfl, by omega, by omega⟩

theorem open_tf {T : TypeId} {v : Value} {d : DataW H} {p : List MemPlace} (hT : P.underlying T = some .bool) (ok : Value.okWide P W r b0 T v) (h : DataW.Trod enc P W base spare held T v d p) :
    ∃ b, v = .bool b := by
  obtain ⟨b, rfl, _⟩ := Go.RowKit.open_bool hT ok h
  exact ⟨b, rfl⟩
end
end Go.Proofs.Ytppbaahaegmgeaa
