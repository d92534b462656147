/- A number brought to a range, as the references do it. -/
import Derived.Test.YtppbaahaegmgeaaChecked
import Derived.Test.YtppbaahaegmgeaaBase
namespace Go.Proofs.Ytppbaahaegmgeaa
open Go.RowKit

theorem tmod_neg (x m : Int) (hm : 0 < m) (h : x.tmod m < 0) : x.tmod m + m = x % m := by
  have e := Int.tmod_eq_emod (a := x) (b := m)
  have h0 := Int.emod_nonneg x (show m ≠ 0 by omega)
  split at e <;> omega
theorem tmod_pos (x m : Int) (hm : 0 < m) (h : 0 ≤ x.tmod m) : x.tmod m = x % m := by
  have e := Int.tmod_eq_emod (a := x) (b := m)
  have h0 := Int.emod_lt_of_pos x hm
  have h1 := Int.emod_nonneg x (show m ≠ 0 by omega)
  split at e
  · omega
  · omega

theorem bring_any (x m : Int) (w : World) (hm : 0 < m) (hm2 : m ≤ 4294967296) (h1 : -9223372036854775808 ≤ x) (h2 : x ≤ 9223372036854775807) :
    Calls Try.prog 25 #[.int .i64 x, .int .i64 m] w fun e w' => e = .returned (.int .i64 (x % m)) ∧ w = w' := by
  go_enter Try.func25, Try.ntmps25
  go_wp2
  · rename_i hneg
    go_ret
    have e := tmod_neg x m hm hneg
    have h0 := Int.emod_nonneg x (show m ≠ 0 by omega)
    have h3 := Int.emod_lt_of_pos x hm
    exact ⟨ret_int (by rw [e]; unfold wrap64; omega), rfl⟩
  · rename_i hpos
    go_ret
    exact ⟨ret_int (tmod_pos x m hm hpos), rfl⟩

theorem bring_bd (x m : Int) (hm : 0 < m) : 0 ≤ x % m ∧ x % m < m := ⟨Int.emod_nonneg x (by omega), Int.emod_lt_of_pos x hm⟩

end Go.Proofs.Ytppbaahaegmgeaa
