/-
  No cell of these rows narrows 'for every input' (looked for: loops, veiled, ifaces, maps, wideKeys, modest, calm, conditions, laid).
  DERIVED. THE GIVEN ROWS OF THIS SEAT. 4 by the template 'for every input the law returns true; each argument reads behind the call as it read before'; 0 by the template 'total and deterministic' (their statements: YtceeekdephgcmaaTotals.lean).
  GIVEN WITH THE SEED: the statements are not yours to turn. If you find one false, say at which input.
  Laid BY PROGRAM, IN A SANDBOX (cutbox-rows.mjs): the forced cells as the released guide's own fill.sh prints them over the translation 936b6ac84e5c16c7… (all of the seat's roots in one cut). By AI agents, Wed Nov 11 2026. No macro, syntax, notation, axiom, sorry.
-/
import Derived.Test.YtceeekdephgcmaaChecked
import GoSem.Claim
import GoSem.ClaimJoined
import GoSem.ClaimMapViews
import Derived.JoinedTies
import Derived.KernelRfl
namespace Go.Proofs.Ytceeekdephgcmaa
/- THE CELL 'sum', in the pinned program and in every row, IS THE sha256 OF THE DUMP (.gsa) THAT YtceeekdephgcmaaProg.lean LOADS. Nothing in Lean hashes anything: it is a label: what it is worth is what the hold of that sum in a sandbox is worth. -/
noncomputable def Try.pinned : Pinned := { name := "ytceeekdephgcmaa", sum := "936b6ac84e5c16c78efbc8aa02530c19874468f4ca696ec0084cc1f5ad5e821f", checked := Try.checked }
namespace Rows
def none {H : Type} : Left H := { results := [], args := [] }

/-- 'muslinlaw17.RoadOnce': WHATEVER THE INPUT: true; the input reads as it did. -/
def roadOnceSpec : ChangeSpec := { name := "roadOnce", fn := fun _ => fun
  | [d] => { results := [.lit (.bool true)], args := [d] }
  | _ => none }
def roadOnceRow : OpenClaim := { program := "ytceeekdephgcmaa", sum := "936b6ac84e5c16c78efbc8aa02530c19874468f4ca696ec0084cc1f5ad5e821f", func := "muslin/muslinlaw17.RoadOnce", spec := "roadOnce", apart := false }
def RoadOnceSaid : Prop := roadOnceRow.holds Try.pinned (OpenSpec.ofChange roadOnceSpec)

/-- ITS FALSE NEIGHBOUR: 'it returns false'. Refute it at one input. -/
def roadOnceWrong : ChangeSpec := { name := "roadOnce", fn := fun _ => fun
  | [d] => { results := [.lit (.bool false)], args := [d] }
  | _ => none }
def RoadOnceWrongFalsely : Prop := roadOnceRow.holds Try.pinned (OpenSpec.ofChange roadOnceWrong)

/-- 'muslinlaw17.RoadTurns': WHATEVER THE INPUT: true; the input reads as it did. -/
def roadTurnsSpec : ChangeSpec := { name := "roadTurns", fn := fun _ => fun
  | [d1, d2, d3] => { results := [.lit (.bool true)], args := [d1, d2, d3] }
  | _ => none }
def roadTurnsRow : OpenClaim := { program := "ytceeekdephgcmaa", sum := "936b6ac84e5c16c78efbc8aa02530c19874468f4ca696ec0084cc1f5ad5e821f", func := "muslin/muslinlaw17.RoadTurns", spec := "roadTurns", apart := false }
def RoadTurnsSaid : Prop := roadTurnsRow.holds Try.pinned (OpenSpec.ofChange roadTurnsSpec)

/-- ITS FALSE NEIGHBOUR: 'it returns false'. Refute it at one input. -/
def roadTurnsWrong : ChangeSpec := { name := "roadTurns", fn := fun _ => fun
  | [d1, d2, d3] => { results := [.lit (.bool false)], args := [d1, d2, d3] }
  | _ => none }
def RoadTurnsWrongFalsely : Prop := roadTurnsRow.holds Try.pinned (OpenSpec.ofChange roadTurnsWrong)

/-- 'muslinlaw17.RoadDoes': WHATEVER THE INPUT: true; the input reads as it did. -/
def roadDoesSpec : ChangeSpec := { name := "roadDoes", fn := fun _ => fun
  | [d] => { results := [.lit (.bool true)], args := [d] }
  | _ => none }
def roadDoesRow : OpenClaim := { program := "ytceeekdephgcmaa", sum := "936b6ac84e5c16c78efbc8aa02530c19874468f4ca696ec0084cc1f5ad5e821f", func := "muslin/muslinlaw17.RoadDoes", spec := "roadDoes", apart := false }
def RoadDoesSaid : Prop := roadDoesRow.holds Try.pinned (OpenSpec.ofChange roadDoesSpec)

/-- ITS FALSE NEIGHBOUR: 'it returns false'. Refute it at one input. -/
def roadDoesWrong : ChangeSpec := { name := "roadDoes", fn := fun _ => fun
  | [d] => { results := [.lit (.bool false)], args := [d] }
  | _ => none }
def RoadDoesWrongFalsely : Prop := roadDoesRow.holds Try.pinned (OpenSpec.ofChange roadDoesWrong)

/-- 'muslinlaw17.RoadKnown': WHATEVER THE INPUT: true; the input reads as it did. -/
def roadKnownSpec : ChangeSpec := { name := "roadKnown", fn := fun _ => fun
  | [] => { results := [.lit (.bool true)], args := [] }
  | _ => none }
def roadKnownRow : OpenClaim := { program := "ytceeekdephgcmaa", sum := "936b6ac84e5c16c78efbc8aa02530c19874468f4ca696ec0084cc1f5ad5e821f", func := "muslin/muslinlaw17.RoadKnown", spec := "roadKnown", apart := false }
def RoadKnownSaid : Prop := roadKnownRow.holds Try.pinned (OpenSpec.ofChange roadKnownSpec)

/-- ITS FALSE NEIGHBOUR: 'it returns false'. Refute it at one input. -/
def roadKnownWrong : ChangeSpec := { name := "roadKnown", fn := fun _ => fun
  | [] => { results := [.lit (.bool false)], args := [] }
  | _ => none }
def RoadKnownWrongFalsely : Prop := roadKnownRow.holds Try.pinned (OpenSpec.ofChange roadKnownWrong)

/- THE SECOND FORM. 'bulk': how many values and letters a reading holds, each counted each time it is reached (what is shared counts as often as it is met; a slice's spare places count too). A statement '..UptoSaid' is the law's where the arguments, and the package variables that the reading takes, are together of bulk at most 1048576: NARROWER than '..Said'. Prove '..Said' where nothing that the law and all that it calls make is longer than what came in: it says more and counts as full. Else prove '..UptoSaid'. A law counts once. -/
mutual
def uptoBulk {H : Type} : DataW H → Nat
  | .lit (.string bytes) => bytes.length + 1
  | .lit _ => 1
  | .nil => 1
  | .ptr d => uptoBulk d + 1
  | .slice elems spare => uptoBulkAll elems + uptoBulkAll spare + 1
  | .agg parts => uptoBulkAll parts + 1
  | .iface _ d => uptoBulk d + 1
  | .map entries => uptoBulkEntries entries + 1
  | .held _ => 1
def uptoBulkAll {H : Type} : List (DataW H) → Nat
  | [] => 0
  | d :: r => uptoBulk d + uptoBulkAll r
def uptoBulkEntries {H : Type} : List (Lit × DataW H) → Nat
  | [] => 0
  | x :: r => uptoBulkEntry x + uptoBulkEntries r
def uptoBulkEntry {H : Type} : Lit × DataW H → Nat
  | (.string bytes, d) => bytes.length + uptoBulk d + 1
  | (_, d) => uptoBulk d + 1
 end
def uptoSmall : (H : Type) → List (DataW H) → Bool := fun _ ds => decide (uptoBulkAll ds ≤ 1048576)
def OpenSpec.upto (s : _root_.Go.ChangeSpec) : _root_.Go.OpenSpec := { _root_.Go.OpenSpec.ofChange s with cond := some uptoSmall }

/-- 'muslinlaw17.RoadOnce', WHERE WHAT IT READS IS OF BULK AT MOST 1048576: true; the input reads as it did. -/
def roadOnceUptoRow : OpenClaim := { program := "ytceeekdephgcmaa", sum := "936b6ac84e5c16c78efbc8aa02530c19874468f4ca696ec0084cc1f5ad5e821f", func := "muslin/muslinlaw17.RoadOnce", spec := "roadOnce", apart := false, narrowed := true }
def RoadOnceUptoSaid : Prop := roadOnceUptoRow.holds Try.pinned (OpenSpec.upto roadOnceSpec)

/-- 'muslinlaw17.RoadTurns', WHERE WHAT IT READS IS OF BULK AT MOST 1048576: true; the input reads as it did. -/
def roadTurnsUptoRow : OpenClaim := { program := "ytceeekdephgcmaa", sum := "936b6ac84e5c16c78efbc8aa02530c19874468f4ca696ec0084cc1f5ad5e821f", func := "muslin/muslinlaw17.RoadTurns", spec := "roadTurns", apart := false, narrowed := true }
def RoadTurnsUptoSaid : Prop := roadTurnsUptoRow.holds Try.pinned (OpenSpec.upto roadTurnsSpec)

/-- 'muslinlaw17.RoadDoes', WHERE WHAT IT READS IS OF BULK AT MOST 1048576: true; the input reads as it did. -/
def roadDoesUptoRow : OpenClaim := { program := "ytceeekdephgcmaa", sum := "936b6ac84e5c16c78efbc8aa02530c19874468f4ca696ec0084cc1f5ad5e821f", func := "muslin/muslinlaw17.RoadDoes", spec := "roadDoes", apart := false, narrowed := true }
def RoadDoesUptoSaid : Prop := roadDoesUptoRow.holds Try.pinned (OpenSpec.upto roadDoesSpec)

/-- 'muslinlaw17.RoadKnown', WHERE WHAT IT READS IS OF BULK AT MOST 1048576: true; the input reads as it did. -/
def roadKnownUptoRow : OpenClaim := { program := "ytceeekdephgcmaa", sum := "936b6ac84e5c16c78efbc8aa02530c19874468f4ca696ec0084cc1f5ad5e821f", func := "muslin/muslinlaw17.RoadKnown", spec := "roadKnown", apart := false, narrowed := true }
def RoadKnownUptoSaid : Prop := roadKnownUptoRow.holds Try.pinned (OpenSpec.upto roadKnownSpec)

end Rows
end Go.Proofs.Ytceeekdephgcmaa
