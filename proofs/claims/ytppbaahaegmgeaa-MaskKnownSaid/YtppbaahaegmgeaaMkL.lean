/- mask: what the chapter's examples call. -/
import Derived.Test.YtppbaahaegmgeaaMkK
import Derived.Laws.IdiomStrings
namespace Go.Proofs.Ytppbaahaegmgeaa
open Go.RowKit

def row16 (f : Nat → Int) : List Value := row 16 fun k => .int .u8 (f k)
theorem info16 (f : Nat → Int) : (Try.prog.info? 46).map (·.size) = some (row16 f).toArray.size := by kernel_rfl
theorem one16 (f : Nat → Int) : (row16 f).toArray.all (·.oneCell') = true := by kernel_rfl
theorem size16 (f g : Nat → Int) : (row16 f).toArray.size = (row16 g).toArray.size := rfl
theorem zero16 (w : World) : (zeroValue 46).run Try.prog w = .ok (.agg (row16 fun _ => 0).toArray) w := by kernel_rfl
theorem zeroK (w : World) : (zeroValue 23).run Try.prog w = .ok (.agg (row32 fun _ => 0).toArray) w := by kernel_rfl
theorem eq_zero16 (w : World) : (binOp BinOp.eql 46 (.agg (row16 fun _ => 0).toArray) (.agg (row16 fun _ => 0).toArray)).run Try.prog w = .ok (.bool true) w := by kernel_rfl

theorem eq_zero16' (w : World) : (Op.equalIn 10000 46 (.agg (row16 fun _ => 0).toArray) (.agg #[.int .u8 0, .int .u8 0, .int .u8 0, .int .u8 0, .int .u8 0, .int .u8 0, .int .u8 0, .int .u8 0, .int .u8 0, .int .u8 0, .int .u8 0, .int .u8 0, .int .u8 0, .int .u8 0, .int .u8 0, .int .u8 0])).run Try.prog w = .ok true w := by kernel_rfl

set_option maxRecDepth 100000 in
theorem mark_none (w : World) (G : Nat → Int) : Calls Try.prog 23 #[.agg (row32 G).toArray, .string ⟨#[]⟩] w fun e w' => e = .returned (.agg (row16 fun _ => 0).toArray) ∧ Upd [] w w' := by
  have hz := zero16
  go_enter Try.func23, Try.ntmps23
  go_upto_region 1 with fail
  have u1 := ((Upd.refl [] w).alloc (.cells (row32 G).toArray 23)).alloc (.cells (row16 fun _ => 0).toArray 46)
  have hR := Blk.new (w.alloc (.cells (row32 G).toArray 23)) (row16 fun _ => 0).toArray 46
  rw [World.size_alloc] at hR
  generalize (w.alloc (.cells (row32 G).toArray 23)).alloc (.cells (row16 fun _ => 0).toArray 46) = W1 at *
  go_wp2_with (refine wpList_store_rowTo rfl _ _ _ rfl rfl _ (row16 fun _ => 0).toArray rfl rfl _ (row16 fun _ => 0).toArray hR (info16 _) (size16 _ _) (one16 _) ?_)
  have hR5 := hR.setRow (row16 fun _ => 0).toArray
  refine bodyPost_ret (v := .agg (row16 fun _ => 0).toArray) (results_cell_row rfl _ _ (w.heap.size + 1) _ _ _ _ rfl hR5 Try.underlying46 rfl (info16 _)) rfl ⟨rfl, u1.setRow (b := w.heap.size + 1) (Or.inr (by omega)) _⟩

/-- Bytes as a string. -/
theorem bstr {w : World} {p : Option Addr} {c k : Nat} {xs : List Int} (hk : xs.length = k) (h : ByAt w p xs) (h0 : 0 < k) :
    (convert 26 9 (.slice p k c)).run Try.prog w = .ok (.string (strOfNums xs)) w := by
  subst hk
  obtain ⟨b, o, rfl⟩ := h.form h0
  exact run_convert_bytes_arg w 26 5 Try.underlying26 Try.underlying5 b o _ _ xs rfl (fun i hi => h.cell i hi) _ Try.underlying9

end Go.Proofs.Ytppbaahaegmgeaa
