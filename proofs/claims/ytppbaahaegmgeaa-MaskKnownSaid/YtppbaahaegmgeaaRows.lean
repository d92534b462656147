/-
  No cell of these rows narrows 'for every input' (looked for: loops, veiled, ifaces, maps, wideKeys, modest, calm, conditions, laid).
  DERIVED. THE GIVEN ROWS OF THIS SEAT. 7 by the template 'for every input the law returns true; each argument reads behind the call as it read before'; 0 by the template 'total and deterministic' (their statements: YtppbaahaegmgeaaTotals.lean).
  GIVEN WITH THE SEED: the statements are not yours to turn. If you find one false, say at which input.
  Laid BY PROGRAM, IN A SANDBOX (cutbox-rows.mjs): the forced cells as the released guide's own fill.sh prints them over the translation 2dc1312e36dd7bca… (all of the seat's roots in one cut). By AI agents, Wed Nov 11 2026. No macro, syntax, notation, axiom, sorry.
-/
import Derived.Test.YtppbaahaegmgeaaChecked
import GoSem.Claim
import GoSem.ClaimJoined
import GoSem.ClaimMapViews
import Derived.JoinedTies
import Derived.KernelRfl
namespace Go.Proofs.Ytppbaahaegmgeaa
/- THE CELL 'sum', in the pinned program and in every row, IS THE sha256 OF THE DUMP (.gsa) THAT YtppbaahaegmgeaaProg.lean LOADS. Nothing in Lean hashes anything: it is a label: what it is worth is what the hold of that sum in a sandbox is worth. -/
noncomputable def Try.pinned : Pinned := { name := "ytppbaahaegmgeaa", sum := "2dc1312e36dd7bca5429323287e8b497841216289b40858b5a0ea08820f0949f", checked := Try.checked }
namespace Rows
def none {H : Type} : Left H := { results := [], args := [] }

/-- 'muslinlaw15.MaskSeals': WHATEVER THE INPUT: true; the input reads as it did. -/
def maskSealsSpec : ChangeSpec := { name := "maskSeals", fn := fun _ => fun
  | [d1, d2, d3] => { results := [.lit (.bool true)], args := [d1, d2, d3] }
  | _ => none }
def maskSealsRow : OpenClaim := { program := "ytppbaahaegmgeaa", sum := "2dc1312e36dd7bca5429323287e8b497841216289b40858b5a0ea08820f0949f", func := "muslin/muslinlaw15.MaskSeals", spec := "maskSeals", unfollowed := true, recurses := true, apart := false }
def MaskSealsSaid : Prop := maskSealsRow.holds Try.pinned (OpenSpec.ofChange maskSealsSpec)

/-- ITS FALSE NEIGHBOUR: 'it returns false'. Refute it at one input. -/
def maskSealsWrong : ChangeSpec := { name := "maskSeals", fn := fun _ => fun
  | [d1, d2, d3] => { results := [.lit (.bool false)], args := [d1, d2, d3] }
  | _ => none }
def MaskSealsWrongFalsely : Prop := maskSealsRow.holds Try.pinned (OpenSpec.ofChange maskSealsWrong)

/-- 'muslinlaw15.MaskStream': WHATEVER THE INPUT: true; the input reads as it did. -/
def maskStreamSpec : ChangeSpec := { name := "maskStream", fn := fun _ => fun
  | [d1, d2, d3] => { results := [.lit (.bool true)], args := [d1, d2, d3] }
  | _ => none }
def maskStreamRow : OpenClaim := { program := "ytppbaahaegmgeaa", sum := "2dc1312e36dd7bca5429323287e8b497841216289b40858b5a0ea08820f0949f", func := "muslin/muslinlaw15.MaskStream", spec := "maskStream", unfollowed := true, recurses := true, apart := false }
def MaskStreamSaid : Prop := maskStreamRow.holds Try.pinned (OpenSpec.ofChange maskStreamSpec)

/-- ITS FALSE NEIGHBOUR: 'it returns false'. Refute it at one input. -/
def maskStreamWrong : ChangeSpec := { name := "maskStream", fn := fun _ => fun
  | [d1, d2, d3] => { results := [.lit (.bool false)], args := [d1, d2, d3] }
  | _ => none }
def MaskStreamWrongFalsely : Prop := maskStreamRow.holds Try.pinned (OpenSpec.ofChange maskStreamWrong)

/-- 'muslinlaw15.MaskMade': WHATEVER THE INPUT: true; the input reads as it did. -/
def maskMadeSpec : ChangeSpec := { name := "maskMade", fn := fun _ => fun
  | [d1, d2, d3] => { results := [.lit (.bool true)], args := [d1, d2, d3] }
  | _ => none }
def maskMadeRow : OpenClaim := { program := "ytppbaahaegmgeaa", sum := "2dc1312e36dd7bca5429323287e8b497841216289b40858b5a0ea08820f0949f", func := "muslin/muslinlaw15.MaskMade", spec := "maskMade", unfollowed := true, recurses := true, apart := false }
def MaskMadeSaid : Prop := maskMadeRow.holds Try.pinned (OpenSpec.ofChange maskMadeSpec)

/-- ITS FALSE NEIGHBOUR: 'it returns false'. Refute it at one input. -/
def maskMadeWrong : ChangeSpec := { name := "maskMade", fn := fun _ => fun
  | [d1, d2, d3] => { results := [.lit (.bool false)], args := [d1, d2, d3] }
  | _ => none }
def MaskMadeWrongFalsely : Prop := maskMadeRow.holds Try.pinned (OpenSpec.ofChange maskMadeWrong)

/-- 'muslinlaw15.MaskBack': WHATEVER THE INPUT: true; the input reads as it did. -/
def maskBackSpec : ChangeSpec := { name := "maskBack", fn := fun _ => fun
  | [d1, d2, d3] => { results := [.lit (.bool true)], args := [d1, d2, d3] }
  | _ => none }
def maskBackRow : OpenClaim := { program := "ytppbaahaegmgeaa", sum := "2dc1312e36dd7bca5429323287e8b497841216289b40858b5a0ea08820f0949f", func := "muslin/muslinlaw15.MaskBack", spec := "maskBack", unfollowed := true, recurses := true, apart := false }
def MaskBackSaid : Prop := maskBackRow.holds Try.pinned (OpenSpec.ofChange maskBackSpec)

/-- ITS FALSE NEIGHBOUR: 'it returns false'. Refute it at one input. -/
def maskBackWrong : ChangeSpec := { name := "maskBack", fn := fun _ => fun
  | [d1, d2, d3] => { results := [.lit (.bool false)], args := [d1, d2, d3] }
  | _ => none }
def MaskBackWrongFalsely : Prop := maskBackRow.holds Try.pinned (OpenSpec.ofChange maskBackWrong)

/-- 'muslinlaw15.MaskTurned': WHATEVER THE INPUT: true; the input reads as it did. -/
def maskTurnedSpec : ChangeSpec := { name := "maskTurned", fn := fun _ => fun
  | [d1, d2, d3] => { results := [.lit (.bool true)], args := [d1, d2, d3] }
  | _ => none }
def maskTurnedRow : OpenClaim := { program := "ytppbaahaegmgeaa", sum := "2dc1312e36dd7bca5429323287e8b497841216289b40858b5a0ea08820f0949f", func := "muslin/muslinlaw15.MaskTurned", spec := "maskTurned", unfollowed := true, recurses := true, apart := false }
def MaskTurnedSaid : Prop := maskTurnedRow.holds Try.pinned (OpenSpec.ofChange maskTurnedSpec)

/-- ITS FALSE NEIGHBOUR: 'it returns false'. Refute it at one input. -/
def maskTurnedWrong : ChangeSpec := { name := "maskTurned", fn := fun _ => fun
  | [d1, d2, d3] => { results := [.lit (.bool false)], args := [d1, d2, d3] }
  | _ => none }
def MaskTurnedWrongFalsely : Prop := maskTurnedRow.holds Try.pinned (OpenSpec.ofChange maskTurnedWrong)

/-- 'muslinlaw15.MaskMarks': WHATEVER THE INPUT: true; the input reads as it did. -/
def maskMarksSpec : ChangeSpec := { name := "maskMarks", fn := fun _ => fun
  | [d1, d2, d3] => { results := [.lit (.bool true)], args := [d1, d2, d3] }
  | _ => none }
def maskMarksRow : OpenClaim := { program := "ytppbaahaegmgeaa", sum := "2dc1312e36dd7bca5429323287e8b497841216289b40858b5a0ea08820f0949f", func := "muslin/muslinlaw15.MaskMarks", spec := "maskMarks", unfollowed := true, recurses := true, apart := false }
def MaskMarksSaid : Prop := maskMarksRow.holds Try.pinned (OpenSpec.ofChange maskMarksSpec)

/-- ITS FALSE NEIGHBOUR: 'it returns false'. Refute it at one input. -/
def maskMarksWrong : ChangeSpec := { name := "maskMarks", fn := fun _ => fun
  | [d1, d2, d3] => { results := [.lit (.bool false)], args := [d1, d2, d3] }
  | _ => none }
def MaskMarksWrongFalsely : Prop := maskMarksRow.holds Try.pinned (OpenSpec.ofChange maskMarksWrong)

/-- 'muslinlaw15.MaskKnown': WHATEVER THE INPUT: true; the input reads as it did. -/
def maskKnownSpec : ChangeSpec := { name := "maskKnown", fn := fun _ => fun
  | [] => { results := [.lit (.bool true)], args := [] }
  | _ => none }
def maskKnownRow : OpenClaim := { program := "ytppbaahaegmgeaa", sum := "2dc1312e36dd7bca5429323287e8b497841216289b40858b5a0ea08820f0949f", func := "muslin/muslinlaw15.MaskKnown", spec := "maskKnown", unfollowed := true, recurses := true, apart := false }
def MaskKnownSaid : Prop := maskKnownRow.holds Try.pinned (OpenSpec.ofChange maskKnownSpec)

/-- ITS FALSE NEIGHBOUR: 'it returns false'. Refute it at one input. -/
def maskKnownWrong : ChangeSpec := { name := "maskKnown", fn := fun _ => fun
  | [] => { results := [.lit (.bool false)], args := [] }
  | _ => none }
def MaskKnownWrongFalsely : Prop := maskKnownRow.holds Try.pinned (OpenSpec.ofChange maskKnownWrong)

/- THE SECOND FORM. 'bulk': how many values and letters a reading holds, each counted each time it is reached (what is shared counts as often as it is met; a slice's spare places count too). A statement '..UptoSaid' is the law's where the arguments, and the package variables that the reading takes, are together of bulk at most 1048576: NARROWER than '..Said'. Prove '..Said' where nothing that the law and all that it calls make is longer than what came in: it says more and counts as full. Else prove '..UptoSaid'. A law counts once. -/
mutual
def uptoBulk {H : Type} : DataW H → Nat
  | .lit (.string bytes) => bytes.length + 1
  | .lit _ => 1
  | .nil => 1
  | .ptr d => uptoBulk d + 1
  | .slice elems spare => uptoBulkAll elems + uptoBulkAll spare + 1
  | .agg parts => uptoBulkAll parts + 1
  | .iface _ d => uptoBulk d + 1
  | .map entries => uptoBulkEntries entries + 1
  | .held _ => 1
def uptoBulkAll {H : Type} : List (DataW H) → Nat
  | [] => 0
  | d :: r => uptoBulk d + uptoBulkAll r
def uptoBulkEntries {H : Type} : List (Lit × DataW H) → Nat
  | [] => 0
  | x :: r => uptoBulkEntry x + uptoBulkEntries r
def uptoBulkEntry {H : Type} : Lit × DataW H → Nat
  | (.string bytes, d) => bytes.length + uptoBulk d + 1
  | (_, d) => uptoBulk d + 1
 end
def uptoSmall : (H : Type) → List (DataW H) → Bool := fun _ ds => decide (uptoBulkAll ds ≤ 1048576)
def OpenSpec.upto (s : _root_.Go.ChangeSpec) : _root_.Go.OpenSpec := { _root_.Go.OpenSpec.ofChange s with cond := some uptoSmall }

/-- 'muslinlaw15.MaskSeals', WHERE WHAT IT READS IS OF BULK AT MOST 1048576: true; the input reads as it did. -/
def maskSealsUptoRow : OpenClaim := { program := "ytppbaahaegmgeaa", sum := "2dc1312e36dd7bca5429323287e8b497841216289b40858b5a0ea08820f0949f", func := "muslin/muslinlaw15.MaskSeals", spec := "maskSeals", unfollowed := true, recurses := true, apart := false, narrowed := true }
def MaskSealsUptoSaid : Prop := maskSealsUptoRow.holds Try.pinned (OpenSpec.upto maskSealsSpec)

/-- 'muslinlaw15.MaskStream', WHERE WHAT IT READS IS OF BULK AT MOST 1048576: true; the input reads as it did. -/
def maskStreamUptoRow : OpenClaim := { program := "ytppbaahaegmgeaa", sum := "2dc1312e36dd7bca5429323287e8b497841216289b40858b5a0ea08820f0949f", func := "muslin/muslinlaw15.MaskStream", spec := "maskStream", unfollowed := true, recurses := true, apart := false, narrowed := true }
def MaskStreamUptoSaid : Prop := maskStreamUptoRow.holds Try.pinned (OpenSpec.upto maskStreamSpec)

/-- 'muslinlaw15.MaskMade', WHERE WHAT IT READS IS OF BULK AT MOST 1048576: true; the input reads as it did. -/
def maskMadeUptoRow : OpenClaim := { program := "ytppbaahaegmgeaa", sum := "2dc1312e36dd7bca5429323287e8b497841216289b40858b5a0ea08820f0949f", func := "muslin/muslinlaw15.MaskMade", spec := "maskMade", unfollowed := true, recurses := true, apart := false, narrowed := true }
def MaskMadeUptoSaid : Prop := maskMadeUptoRow.holds Try.pinned (OpenSpec.upto maskMadeSpec)

/-- 'muslinlaw15.MaskBack', WHERE WHAT IT READS IS OF BULK AT MOST 1048576: true; the input reads as it did. -/
def maskBackUptoRow : OpenClaim := { program := "ytppbaahaegmgeaa", sum := "2dc1312e36dd7bca5429323287e8b497841216289b40858b5a0ea08820f0949f", func := "muslin/muslinlaw15.MaskBack", spec := "maskBack", unfollowed := true, recurses := true, apart := false, narrowed := true }
def MaskBackUptoSaid : Prop := maskBackUptoRow.holds Try.pinned (OpenSpec.upto maskBackSpec)

/-- 'muslinlaw15.MaskTurned', WHERE WHAT IT READS IS OF BULK AT MOST 1048576: true; the input reads as it did. -/
def maskTurnedUptoRow : OpenClaim := { program := "ytppbaahaegmgeaa", sum := "2dc1312e36dd7bca5429323287e8b497841216289b40858b5a0ea08820f0949f", func := "muslin/muslinlaw15.MaskTurned", spec := "maskTurned", unfollowed := true, recurses := true, apart := false, narrowed := true }
def MaskTurnedUptoSaid : Prop := maskTurnedUptoRow.holds Try.pinned (OpenSpec.upto maskTurnedSpec)

/-- 'muslinlaw15.MaskMarks', WHERE WHAT IT READS IS OF BULK AT MOST 1048576: true; the input reads as it did. -/
def maskMarksUptoRow : OpenClaim := { program := "ytppbaahaegmgeaa", sum := "2dc1312e36dd7bca5429323287e8b497841216289b40858b5a0ea08820f0949f", func := "muslin/muslinlaw15.MaskMarks", spec := "maskMarks", unfollowed := true, recurses := true, apart := false, narrowed := true }
def MaskMarksUptoSaid : Prop := maskMarksUptoRow.holds Try.pinned (OpenSpec.upto maskMarksSpec)

/-- 'muslinlaw15.MaskKnown', WHERE WHAT IT READS IS OF BULK AT MOST 1048576: true; the input reads as it did. -/
def maskKnownUptoRow : OpenClaim := { program := "ytppbaahaegmgeaa", sum := "2dc1312e36dd7bca5429323287e8b497841216289b40858b5a0ea08820f0949f", func := "muslin/muslinlaw15.MaskKnown", spec := "maskKnown", unfollowed := true, recurses := true, apart := false, narrowed := true }
def MaskKnownUptoSaid : Prop := maskKnownUptoRow.holds Try.pinned (OpenSpec.upto maskKnownSpec)

end Rows
end Go.Proofs.Ytppbaahaegmgeaa
