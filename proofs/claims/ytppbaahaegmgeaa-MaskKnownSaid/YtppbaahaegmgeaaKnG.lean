/- Digests compared. -/
import Derived.Test.YtppbaahaegmgeaaKnF
import Derived.ChangeKeysEq
namespace Go.Proofs.Ytppbaahaegmgeaa
open Go.RowKit

theorem part_u8 (w : World) (F : Nat → Int) (i : Nat) (hi : i < 32) : (part 5 (row32 F).toArray i).run Try.prog w = .ok (.int .u8 (F i)) w :=
  run_part_plain w (by kernel_rfl) (by rw [List.getElem?_toArray]; exact row_get _ hi)
theorem eqItems_u8 (w : World) (F G : Nat → Int) : ∀ is : List Nat, (∀ i ∈ is, i < 32) →
    (Op.eqItems 9999 5 1 (row32 F).toArray (row32 G).toArray is).run Try.prog w = .ok (decide (∀ i ∈ is, F i = G i)) w
  | [], _ => by simp [Op.eqItems]
  | i :: is, h => by
    have h1 := part_u8 w F i (h i (by simp))
    have h2 := part_u8 w G i (h i (by simp))
    have h3 : (Op.equalIn 9999 5 (.int .u8 (F i)) (.int .u8 (G i))).run Try.prog w = .ok (F i == G i) w := run_equalIn_int (P := Try.prog) w 9998 5 .u8 .u8 (F i) (G i) Try.underlying5
    have h4 := eqItems_u8 w F G is (fun j hj => h j (by simp [hj]))
    by_cases e : F i = G i
    · have hb : (F i == G i) = true := by simpa using e
      rw [hb] at h3
      simp only [Op.eqItems, Nat.mul_one, Sem.run_bind, h1, h2, h3, h4, Result.andThen_ok]
      simp [h4, e]
    · simp [Op.eqItems, h1, h2, h3, h4, e]
set_option maxRecDepth 100000 in
theorem eq_agg32 (w : World) (F G : Nat → Int) : (Op.equalIn 10000 22 (.agg (row32 F).toArray) (.agg (row32 G).toArray)).run Try.prog w = .ok (decide (∀ i ∈ List.range 32, F i = G i)) w := by
  obtain ⟨i0, hi⟩ : ∃ i0, Try.prog.info? 5 = some i0 := ⟨_, rfl⟩
  have hc : Try.prog.cellsOf 5 = 1 := by kernel_rfl
  rw [run_equalIn_array (P := Try.prog) w 9999 (row32 F).toArray (row32 G).toArray Try.underlying22 hi, hc, eqItems_u8 w F G (List.range 32) (fun i h => List.mem_range.1 h)]

theorem eq_same (w : World) (F : Nat → Int) : (Op.equalIn 10000 22 (.agg (row32 F).toArray) (.agg (row32 F).toArray)).run Try.prog w = .ok true w := by
  rw [eq_agg32]; simp

end Go.Proofs.Ytppbaahaegmgeaa
