/-
  No cell of these rows narrows 'for every input' (looked for: loops, veiled, ifaces, maps, wideKeys, modest, calm, conditions, laid).
  DERIVED. THE GIVEN ROWS OF THIS SEAT. 5 by the template 'for every input the law returns true; each argument reads behind the call as it read before'; 0 by the template 'total and deterministic' (their statements: YtpgilkemcaipiaaTotals.lean).
  GIVEN WITH THE SEED: the statements are not yours to turn. If you find one false, say at which input.
  Laid BY PROGRAM, IN A SANDBOX (cutbox-rows.mjs): the forced cells as the released guide's own fill.sh prints them over the translation e4653f28a5faaeff… (all of the seat's roots in one cut). By AI agents, Wed Nov 11 2026. No macro, syntax, notation, axiom, sorry.
-/
import Derived.Test.YtpgilkemcaipiaaChecked
import GoSem.Claim
import GoSem.ClaimJoined
import GoSem.ClaimMapViews
import Derived.JoinedTies
import Derived.KernelRfl
namespace Go.Proofs.Ytpgilkemcaipiaa
/- THE CELL 'sum', in the pinned program and in every row, IS THE sha256 OF THE DUMP (.gsa) THAT YtpgilkemcaipiaaProg.lean LOADS. Nothing in Lean hashes anything: it is a label: what it is worth is what the hold of that sum in a sandbox is worth. -/
noncomputable def Try.pinned : Pinned := { name := "ytpgilkemcaipiaa", sum := "e4653f28a5faaeffe3ccc6b326293ee32d2f3f155b105d54ce5bb7db8daa3e26", checked := Try.checked }
namespace Rows
def none {H : Type} : Left H := { results := [], args := [] }

/-- 'muslinlaw16.AgentOnce': WHATEVER THE INPUT: true; the input reads as it did. -/
def agentOnceSpec : ChangeSpec := { name := "agentOnce", fn := fun _ => fun
  | [d] => { results := [.lit (.bool true)], args := [d] }
  | _ => none }
def agentOnceRow : OpenClaim := { program := "ytpgilkemcaipiaa", sum := "e4653f28a5faaeffe3ccc6b326293ee32d2f3f155b105d54ce5bb7db8daa3e26", func := "muslin/muslinlaw16.AgentOnce", spec := "agentOnce", inPlace := ["sync/atomic.AddInt64", "sync/atomic.LoadInt64"], apart := false }
def AgentOnceSaid : Prop := agentOnceRow.holds Try.pinned (OpenSpec.ofChange agentOnceSpec)

/-- ITS FALSE NEIGHBOUR: 'it returns false'. Refute it at one input. -/
def agentOnceWrong : ChangeSpec := { name := "agentOnce", fn := fun _ => fun
  | [d] => { results := [.lit (.bool false)], args := [d] }
  | _ => none }
def AgentOnceWrongFalsely : Prop := agentOnceRow.holds Try.pinned (OpenSpec.ofChange agentOnceWrong)

/-- 'muslinlaw16.AgentAlone': WHATEVER THE INPUT: true; the input reads as it did. -/
def agentAloneSpec : ChangeSpec := { name := "agentAlone", fn := fun _ => fun
  | [d1, d2] => { results := [.lit (.bool true)], args := [d1, d2] }
  | _ => none }
def agentAloneRow : OpenClaim := { program := "ytpgilkemcaipiaa", sum := "e4653f28a5faaeffe3ccc6b326293ee32d2f3f155b105d54ce5bb7db8daa3e26", func := "muslin/muslinlaw16.AgentAlone", spec := "agentAlone", inPlace := ["sync/atomic.AddInt64", "sync/atomic.LoadInt64"], apart := false }
def AgentAloneSaid : Prop := agentAloneRow.holds Try.pinned (OpenSpec.ofChange agentAloneSpec)

/-- ITS FALSE NEIGHBOUR: 'it returns false'. Refute it at one input. -/
def agentAloneWrong : ChangeSpec := { name := "agentAlone", fn := fun _ => fun
  | [d1, d2] => { results := [.lit (.bool false)], args := [d1, d2] }
  | _ => none }
def AgentAloneWrongFalsely : Prop := agentAloneRow.holds Try.pinned (OpenSpec.ofChange agentAloneWrong)

/-- 'muslinlaw16.AgentDoes': WHATEVER THE INPUT: true; the input reads as it did. -/
def agentDoesSpec : ChangeSpec := { name := "agentDoes", fn := fun _ => fun
  | [d1, d2] => { results := [.lit (.bool true)], args := [d1, d2] }
  | _ => none }
def agentDoesRow : OpenClaim := { program := "ytpgilkemcaipiaa", sum := "e4653f28a5faaeffe3ccc6b326293ee32d2f3f155b105d54ce5bb7db8daa3e26", func := "muslin/muslinlaw16.AgentDoes", spec := "agentDoes", inPlace := ["sync/atomic.AddInt64", "sync/atomic.LoadInt64"], apart := false }
def AgentDoesSaid : Prop := agentDoesRow.holds Try.pinned (OpenSpec.ofChange agentDoesSpec)

/-- ITS FALSE NEIGHBOUR: 'it returns false'. Refute it at one input. -/
def agentDoesWrong : ChangeSpec := { name := "agentDoes", fn := fun _ => fun
  | [d1, d2] => { results := [.lit (.bool false)], args := [d1, d2] }
  | _ => none }
def AgentDoesWrongFalsely : Prop := agentDoesRow.holds Try.pinned (OpenSpec.ofChange agentDoesWrong)

/-- 'muslinlaw16.AgentAgain': WHATEVER THE INPUT: true; the input reads as it did. -/
def agentAgainSpec : ChangeSpec := { name := "agentAgain", fn := fun _ => fun
  | [d1, d2] => { results := [.lit (.bool true)], args := [d1, d2] }
  | _ => none }
def agentAgainRow : OpenClaim := { program := "ytpgilkemcaipiaa", sum := "e4653f28a5faaeffe3ccc6b326293ee32d2f3f155b105d54ce5bb7db8daa3e26", func := "muslin/muslinlaw16.AgentAgain", spec := "agentAgain", inPlace := ["sync/atomic.AddInt64", "sync/atomic.LoadInt64"], apart := false }
def AgentAgainSaid : Prop := agentAgainRow.holds Try.pinned (OpenSpec.ofChange agentAgainSpec)

/-- ITS FALSE NEIGHBOUR: 'it returns false'. Refute it at one input. -/
def agentAgainWrong : ChangeSpec := { name := "agentAgain", fn := fun _ => fun
  | [d1, d2] => { results := [.lit (.bool false)], args := [d1, d2] }
  | _ => none }
def AgentAgainWrongFalsely : Prop := agentAgainRow.holds Try.pinned (OpenSpec.ofChange agentAgainWrong)

/-- 'muslinlaw16.AgentKnown': WHATEVER THE INPUT: true; the input reads as it did. -/
def agentKnownSpec : ChangeSpec := { name := "agentKnown", fn := fun _ => fun
  | [] => { results := [.lit (.bool true)], args := [] }
  | _ => none }
def agentKnownRow : OpenClaim := { program := "ytpgilkemcaipiaa", sum := "e4653f28a5faaeffe3ccc6b326293ee32d2f3f155b105d54ce5bb7db8daa3e26", func := "muslin/muslinlaw16.AgentKnown", spec := "agentKnown", inPlace := ["sync/atomic.AddInt64", "sync/atomic.LoadInt64"], apart := false }
def AgentKnownSaid : Prop := agentKnownRow.holds Try.pinned (OpenSpec.ofChange agentKnownSpec)

/-- ITS FALSE NEIGHBOUR: 'it returns false'. Refute it at one input. -/
def agentKnownWrong : ChangeSpec := { name := "agentKnown", fn := fun _ => fun
  | [] => { results := [.lit (.bool false)], args := [] }
  | _ => none }
def AgentKnownWrongFalsely : Prop := agentKnownRow.holds Try.pinned (OpenSpec.ofChange agentKnownWrong)

/- THE SECOND FORM. 'bulk': how many values and letters a reading holds, each counted each time it is reached (what is shared counts as often as it is met; a slice's spare places count too). A statement '..UptoSaid' is the law's where the arguments, and the package variables that the reading takes, are together of bulk at most 1048576: NARROWER than '..Said'. Prove '..Said' where nothing that the law and all that it calls make is longer than what came in: it says more and counts as full. Else prove '..UptoSaid'. A law counts once. -/
mutual
def uptoBulk {H : Type} : DataW H → Nat
  | .lit (.string bytes) => bytes.length + 1
  | .lit _ => 1
  | .nil => 1
  | .ptr d => uptoBulk d + 1
  | .slice elems spare => uptoBulkAll elems + uptoBulkAll spare + 1
  | .agg parts => uptoBulkAll parts + 1
  | .iface _ d => uptoBulk d + 1
  | .map entries => uptoBulkEntries entries + 1
  | .held _ => 1
def uptoBulkAll {H : Type} : List (DataW H) → Nat
  | [] => 0
  | d :: r => uptoBulk d + uptoBulkAll r
def uptoBulkEntries {H : Type} : List (Lit × DataW H) → Nat
  | [] => 0
  | x :: r => uptoBulkEntry x + uptoBulkEntries r
def uptoBulkEntry {H : Type} : Lit × DataW H → Nat
  | (.string bytes, d) => bytes.length + uptoBulk d + 1
  | (_, d) => uptoBulk d + 1
 end
def uptoSmall : (H : Type) → List (DataW H) → Bool := fun _ ds => decide (uptoBulkAll ds ≤ 1048576)
def OpenSpec.upto (s : _root_.Go.ChangeSpec) : _root_.Go.OpenSpec := { _root_.Go.OpenSpec.ofChange s with cond := some uptoSmall }

/-- 'muslinlaw16.AgentOnce', WHERE WHAT IT READS IS OF BULK AT MOST 1048576: true; the input reads as it did. -/
def agentOnceUptoRow : OpenClaim := { program := "ytpgilkemcaipiaa", sum := "e4653f28a5faaeffe3ccc6b326293ee32d2f3f155b105d54ce5bb7db8daa3e26", func := "muslin/muslinlaw16.AgentOnce", spec := "agentOnce", inPlace := ["sync/atomic.AddInt64", "sync/atomic.LoadInt64"], apart := false, narrowed := true }
def AgentOnceUptoSaid : Prop := agentOnceUptoRow.holds Try.pinned (OpenSpec.upto agentOnceSpec)

/-- 'muslinlaw16.AgentAlone', WHERE WHAT IT READS IS OF BULK AT MOST 1048576: true; the input reads as it did. -/
def agentAloneUptoRow : OpenClaim := { program := "ytpgilkemcaipiaa", sum := "e4653f28a5faaeffe3ccc6b326293ee32d2f3f155b105d54ce5bb7db8daa3e26", func := "muslin/muslinlaw16.AgentAlone", spec := "agentAlone", inPlace := ["sync/atomic.AddInt64", "sync/atomic.LoadInt64"], apart := false, narrowed := true }
def AgentAloneUptoSaid : Prop := agentAloneUptoRow.holds Try.pinned (OpenSpec.upto agentAloneSpec)

/-- 'muslinlaw16.AgentDoes', WHERE WHAT IT READS IS OF BULK AT MOST 1048576: true; the input reads as it did. -/
def agentDoesUptoRow : OpenClaim := { program := "ytpgilkemcaipiaa", sum := "e4653f28a5faaeffe3ccc6b326293ee32d2f3f155b105d54ce5bb7db8daa3e26", func := "muslin/muslinlaw16.AgentDoes", spec := "agentDoes", inPlace := ["sync/atomic.AddInt64", "sync/atomic.LoadInt64"], apart := false, narrowed := true }
def AgentDoesUptoSaid : Prop := agentDoesUptoRow.holds Try.pinned (OpenSpec.upto agentDoesSpec)

/-- 'muslinlaw16.AgentAgain', WHERE WHAT IT READS IS OF BULK AT MOST 1048576: true; the input reads as it did. -/
def agentAgainUptoRow : OpenClaim := { program := "ytpgilkemcaipiaa", sum := "e4653f28a5faaeffe3ccc6b326293ee32d2f3f155b105d54ce5bb7db8daa3e26", func := "muslin/muslinlaw16.AgentAgain", spec := "agentAgain", inPlace := ["sync/atomic.AddInt64", "sync/atomic.LoadInt64"], apart := false, narrowed := true }
def AgentAgainUptoSaid : Prop := agentAgainUptoRow.holds Try.pinned (OpenSpec.upto agentAgainSpec)

/-- 'muslinlaw16.AgentKnown', WHERE WHAT IT READS IS OF BULK AT MOST 1048576: true; the input reads as it did. -/
def agentKnownUptoRow : OpenClaim := { program := "ytpgilkemcaipiaa", sum := "e4653f28a5faaeffe3ccc6b326293ee32d2f3f155b105d54ce5bb7db8daa3e26", func := "muslin/muslinlaw16.AgentKnown", spec := "agentKnown", inPlace := ["sync/atomic.AddInt64", "sync/atomic.LoadInt64"], apart := false, narrowed := true }
def AgentKnownUptoSaid : Prop := agentKnownUptoRow.holds Try.pinned (OpenSpec.upto agentKnownSpec)

end Rows
end Go.Proofs.Ytpgilkemcaipiaa
