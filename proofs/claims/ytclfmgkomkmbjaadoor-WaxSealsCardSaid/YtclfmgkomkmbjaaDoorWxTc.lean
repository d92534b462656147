import Derived.Test.YtclfmgkomkmbjaaDoorKnG
namespace Go.Proofs.YtclfmgkomkmbjaaDoor
open Go.RowKit
theorem bin_same (w : World) (F : Nat → Int) : (binOp BinOp.eql 24 (agg32 F) (agg32 F)).run Tryd.prog w = .ok (.bool true) w := by
  unfold agg32
  have h := eq_same w F
  generalize (row32 F).toArray = cs at *
  have h2 : (Op.equal 24 (.agg cs) (.agg cs)).run Tryd.prog w = .ok true w := h
  simp only [binOp, go_sem, Sem.run_bind, h2, Result.andThen_ok, Sem.run_pure]
theorem guard_same (w : World) (F : Nat → Int) (x y : Operand) : (eqGuard BinOp.eql 24 x y (agg32 F) (agg32 F)).run Tryd.prog w = .ok () w := by
  have hg : Tryd.prog.eqGuardType Tryd.prog.depth 24 = false := by kernel_rfl
  unfold agg32
  generalize (row32 F).toArray = cs at *
  simp [eqGuard, Sem.run_bind, hg, Sem.run_pure, program]
  rfl
end Go.Proofs.YtclfmgkomkmbjaaDoor
