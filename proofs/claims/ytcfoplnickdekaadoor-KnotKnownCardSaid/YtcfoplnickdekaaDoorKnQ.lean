/- What the laws of the knot find laid; bytes that came in. -/
import Derived.Test.YtcfoplnickdekaaDoorRows
import Derived.Test.YtcfoplnickdekaaDoorKnP
import Derived.Test.YtcfoplnickdekaaDoorScal
import Derived.Test.YtcfoplnickdekaaDoorKnI
import Derived.Lib.SmallJoins
import Derived.Lib.LaidTab
import Derived.Stop.LaidErr
import Derived.Shelf.Vars
import Derived.LaidMore
import Derived.Stop.Joined
namespace Go.Proofs.YtcfoplnickdekaaDoor
open Go.RowKit Go.ChangeShapes Go.WideShapes Go.Deep

/-- The table of TrailingZeros64. -/
structure LaidOk (W : World) : Prop where
  tab : W.cell? ⟨3, 15, none⟩ = some (.int .u8 4)

def deB64 : List Int := [0, 1, 56, 2, 57, 49, 28, 3, 61, 58, 42, 50, 38, 29, 17, 4, 62, 47, 59, 36, 45, 43, 51, 22, 53, 39, 33, 30, 24, 18, 12, 5, 63, 55, 48, 27, 60, 41, 37, 16, 46, 35, 44, 21, 52, 32, 23, 11, 54, 26, 40, 15, 34, 20, 31, 10, 25, 14, 19, 9, 13, 8, 7, 6]
theorem g64 : Tryd.prog.globalNamed "math/bits.deBruijn64tab" = some 3 := by kernel_rfl
theorem g64t : (Tryd.prog.globals[3]?).map (·.type) = some 99 := by kernel_rfl

theorem laid_knot {W : World} (hL : laidMetH Tryd.prog Rows.knotPiecesRow.laid W) (_hS : W.ShapedOpen Tryd.prog) : LaidOk W := by
  refine ⟨?_⟩
  rw [MakeChecks.laidMetH_plain _ _ _ (by kernel_rfl)] at hL
  have h2 := laidMet.tail hL
  have ht : Lib.TabIs Tryd.prog W "math/bits.deBruijn64tab" .u8 deB64 :=
    Lib.tabIs_of_head g64 g64t Tryd.underlying99 Tryd.underlying5 (by kernel_rfl) (by kernel_rfl) h2
  exact ht.cell g64 15 (by decide)

theorem BytesAt.by_ {w : World} {p : Option Addr} {xs : List Int} {n c : Nat} (h : BytesAt w (.slice p n c) xs) : ByAt w p xs := fun i x hx => by
  have h0 : 0 < xs.length := Nat.lt_of_le_of_lt (Nat.zero_le i) (List.getElem?_eq_some_iff.1 hx).1
  obtain ⟨b, o, rfl, hb, hc⟩ := h.spot h0
  exact ⟨b, o, rfl, hb, hc i x hx⟩

theorem pieces_all (q0 : Option Addr) (cap0 : Nat) (xs0 : List Int) (q1 : Option Addr) (len1 cap1 : Nat) (n2 : Int) (W : World) (hb : BytesAt W (.slice q0 xs0.length cap0) xs0) (hm : xs0.length ≤ maxLen) (hc : xs0.length ≤ cap0)
    (hq : IntsAt W W.heap.size q1 len1) (hl : len1 ≤ maxLen) (hO : LaidOk W) :
    Calls Tryd.prog 5 #[.slice q0 xs0.length cap0, .slice q1 len1 cap1, .int .i64 n2] W fun e w' => e = .returned (.bool true) ∧ Upd [] W w' :=
  pieces_walk W q0 xs0 cap0 hb.by_ hb.1 (Nat.le_trans hm (by decide)) hc q1 len1 cap1 hq (Nat.le_trans hl (by decide)) n2 hO.tab

end Go.Proofs.YtcfoplnickdekaaDoor
