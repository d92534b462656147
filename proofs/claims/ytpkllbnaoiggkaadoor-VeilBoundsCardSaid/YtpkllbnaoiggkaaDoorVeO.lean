/- What VeilTells and the others find laid; what is known of a label, a row of labels, that came in. -/
import Derived.Test.YtpkllbnaoiggkaaDoorRows
import Derived.Test.YtpkllbnaoiggkaaDoorVeA
import Derived.Test.YtpkllbnaoiggkaaDoorScal
import Derived.Lib.SmallJoins
import Derived.Lib.LaidTab
import Derived.Stop.LaidErr
import Derived.Shelf.Vars
import Derived.LaidMore
import Derived.Stop.Joined
namespace Go.Proofs.YtpkllbnaoiggkaaDoor
open Go.RowKit Go.ChangeShapes Go.WideShapes Go.Deep

/-- Of the package-level variables: IndexByte's bound is some number; the table of TrailingZeros64. -/
structure LaidOk (W : World) : Prop where
  max : ∃ m, W.cell? ⟨1, 0, none⟩ = some (.int .i64 m)
  tab : W.cell? ⟨5, 15, none⟩ = some (.int .u8 4)

def deB64 : List Int := [0, 1, 56, 2, 57, 49, 28, 3, 61, 58, 42, 50, 38, 29, 17, 4, 62, 47, 59, 36, 45, 43, 51, 22, 53, 39, 33, 30, 24, 18, 12, 5, 63, 55, 48, 27, 60, 41, 37, 16, 46, 35, 44, 21, 52, 32, 23, 11, 54, 26, 40, 15, 34, 20, 31, 10, 25, 14, 19, 9, 13, 8, 7, 6]
theorem g64 : Tryd.prog.globalNamed "math/bits.deBruijn64tab" = some 5 := by kernel_rfl
theorem g64t : (Tryd.prog.globals[5]?).map (·.type) = some 133 := by kernel_rfl

theorem laid_tells {W : World} (hL : laidMetH Tryd.prog Rows.veilTellsRow.laid W) (hS : W.ShapedOpen Tryd.prog) : LaidOk W := by
  refine ⟨cell_of_shapedOpen_int (zero := #[.int .i64 0]) (t := 3) hS (of_decide_eq_true (by kernel_rfl)) (by kernel_rfl) rfl (by kernel_rfl) (by kernel_rfl) Tryd.underlying3, ?_⟩
  rw [MakeChecks.laidMetH_plain _ _ _ (by kernel_rfl)] at hL
  have h2 := laidMet.tail hL
  have ht : Lib.TabIs Tryd.prog W "math/bits.deBruijn64tab" .u8 deB64 :=
    Lib.tabIs_of_head g64 g64t Tryd.underlying133 Tryd.underlying5 (by kernel_rfl) (by kernel_rfl) h2
  exact ht.cell g64 15 (by decide)

section
variable {H : Type} {enc : TypeId × Value → H} {W : World} {held : Bool} {b0 : Nat} {r : Reach}

theorem wf_u32 {x : Int} (h : (Lit.int .u32 x).wf = true) : 0 ≤ x ∧ x < 4294967296 := by
  simp [Lit.wf, IntKind.min, IntKind.max, IntKind.signed, IntKind.bits] at h
  exact ⟨by omega, by omega⟩

set_option maxRecDepth 100000 in
theorem open_lab {v : Value} {d : DataW H} {p : List MemPlace} (ok : Value.okWide Tryd.prog W r b0 24 v) (h : DataW.Trod enc Tryd.prog W 0 (fun _ => true) held 24 v d p) :
    ∃ a : Lab, v = labV a ∧ a.2 < 4294967296 ∧ -9223372036854775808 ≤ a.1 ∧ a.1 ≤ 9223372036854775807 := by
  obtain ⟨v0, v1, y0, y1, n, rfl, _, _, h0, h1⟩ := Joins.open_agg2 Tryd.underlying24 (by kernel_rfl) (by kernel_rfl) ok h
  obtain ⟨x, e0, _, w0⟩ := DataW.trod_int Tryd.underlying3 h0
  obtain ⟨y, e1, _, w1⟩ := DataW.trod_int Tryd.underlying22 h1
  obtain rfl : v0 = .int .i64 x := by simpa using e0
  obtain rfl : v1 = .int .u32 y := by simpa using e1
  obtain ⟨l0, l1⟩ := wf_u32 w1
  obtain ⟨k, rfl⟩ := Int.eq_ofNat_of_zero_le l0
  have := wf_i64 w0
  exact ⟨(x, k), rfl, by dsimp only; omega, this.1, this.2⟩

set_option maxRecDepth 100000 in
theorem open_labs {v : Value} {d : DataW H} {p : List MemPlace} (ok : Value.okWide Tryd.prog W r b0 25 v) (h : DataW.Trod enc Tryd.prog W 0 (fun _ => true) held 25 v d p) :
    ∃ q ls c, v = .slice q ls.length c ∧ ls.length ≤ maxLen ∧ LabsAt W q ls ∧ ∀ x ∈ ls, x.2 < 4294967296 := by
  obtain ⟨q, len, cap, rfl, hm, hx⟩ := open_rows Tryd.underlying25 (k := 2) (by kernel_rfl) (by omega) ok h
  have key : ∀ i, i < len → ∃ a : Lab, a.2 < 4294967296 ∧ ∃ b o, q = some ⟨b, o, none⟩ ∧ b < W.heap.size ∧ W.cell? ⟨b, o + i * 2, none⟩ = some (.int .i64 a.1) ∧ W.cell? ⟨b, o + i * 2 + 1, none⟩ = some (.int .u32 a.2) := by
    intro i hi
    obtain ⟨b, off, rfl, hb, hc⟩ := hx i hi
    obtain ⟨u0, _, _, e0, t0⟩ := hc 0 3 (by omega) (by kernel_rfl)
    obtain ⟨u1, _, _, e1, t1⟩ := hc 1 22 (by omega) (by kernel_rfl)
    obtain ⟨x, h0, _, w0⟩ := DataW.trod_int Tryd.underlying3 t0
    obtain ⟨y, h1, _, w1⟩ := DataW.trod_int Tryd.underlying22 t1
    obtain rfl : u0 = .int .i64 x := by simpa using h0
    obtain rfl : u1 = .int .u32 y := by simpa using h1
    obtain ⟨l0, l1⟩ := wf_u32 w1
    obtain ⟨k, rfl⟩ := Int.eq_ofNat_of_zero_le l0
    exact ⟨(x, k), by dsimp only; omega, b, off, rfl, hb, e0, e1⟩
  clear hx ok h
  have : ∃ ls : List Lab, ls.length = len ∧ ∀ i a, ls[i]? = some a → a.2 < 4294967296 ∧ ∃ b o, q = some ⟨b, o, none⟩ ∧ b < W.heap.size ∧ W.cell? ⟨b, o + i * 2, none⟩ = some (.int .i64 a.1) ∧ W.cell? ⟨b, o + i * 2 + 1, none⟩ = some (.int .u32 a.2) := by
    refine ⟨(List.finRange len).map fun i => (key i.1 i.2).choose, by simp, fun i a hi => ?_⟩
    rw [List.getElem?_map] at hi
    obtain ⟨j, hj, rfl⟩ := Option.map_eq_some_iff.1 hi
    have hlt : i < len := by have := (List.getElem?_eq_some_iff.1 hj).1; simpa using this
    have : j = ⟨i, hlt⟩ := by
      have := (List.getElem?_eq_some_iff.1 hj).2
      simpa using this.symm
    subst this
    exact (key i hlt).choose_spec
  obtain ⟨ls, rfl, hls⟩ := this
  refine ⟨q, ls, cap, rfl, hm, fun i a hi => (hls i a hi).2, fun x hx => ?_⟩
  obtain ⟨i, hi, rfl⟩ := List.getElem_of_mem hx
  exact (hls i _ (List.getElem?_eq_getElem hi)).1
end

end Go.Proofs.YtpkllbnaoiggkaaDoor
