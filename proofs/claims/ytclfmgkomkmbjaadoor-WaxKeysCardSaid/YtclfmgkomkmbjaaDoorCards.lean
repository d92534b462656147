/-
  DERIVED. GIVEN WITH THE SEED: THE CARDS: each row of YtclfmgkomkmbjaaDoorRows.lean that lists a variable, with what it lists TIED to the program's text (the seventh form; the later family's looks); each row that meets fmt, with fmt's text TOLD by the authors' own Lean function (tested against real Go, not proved from fmt's source: count such statements apart). THE CARD IS WHAT COUNTS. Prove the row's statement (the work); the ties are given (YtclfmgkomkmbjaaDoorTie.lean); close each card by the builder's one call (the guide's Derived/Test/ToyasCard.lean, 'card_holds'). Laid BY PROGRAM, IN A SANDBOX (cutbox-door.mjs). By AI agents, Wed Nov 11 2026. No macro, syntax, notation, axiom, sorry.
-/
import Derived.Test.YtclfmgkomkmbjaaDoorRows
import GoSem.ClaimSeven
namespace Go.Proofs.YtclfmgkomkmbjaaDoor
namespace Rows

/-- THE TIED CARD OF 'muslinlaw05.WaxKeys'. -/
def waxKeysCard : Claim7 := { stood := { row := waxKeysRow, standIns := [], harness := (true, "e10da8cc12bddfe6f149ab3c4156147fc30ae5e7ef16ada58953bf7950f17c13"), looks := false }, kinds := [], alts := [], laidByText := true, laidKinds := [.data, .data, .data], laidTests := true, laidLooks := .later }
def WaxKeysCardSaid : Prop := Claim7.holds Tryd.pinned (.plain (OpenSpec.ofChange waxKeysSpec)) waxKeysCard

/-- THE TIED CARD OF 'muslinlaw05.WaxParts'. -/
def waxPartsCard : Claim7 := { stood := { row := waxPartsRow, standIns := [], harness := (true, "e10da8cc12bddfe6f149ab3c4156147fc30ae5e7ef16ada58953bf7950f17c13"), looks := false }, kinds := [], alts := [], laidByText := true, laidKinds := [.data, .data, .data], laidTests := true, laidLooks := .later }
def WaxPartsCardSaid : Prop := Claim7.holds Tryd.pinned (.plain (OpenSpec.ofChange waxPartsSpec)) waxPartsCard

/-- THE TIED CARD OF 'muslinlaw05.WaxSeals'. -/
def waxSealsCard : Claim7 := { stood := { row := waxSealsRow, standIns := [], harness := (true, "e10da8cc12bddfe6f149ab3c4156147fc30ae5e7ef16ada58953bf7950f17c13"), looks := false }, kinds := [], alts := [], laidByText := true, laidKinds := [.data, .data, .data], laidTests := true, laidLooks := .later }
def WaxSealsCardSaid : Prop := Claim7.holds Tryd.pinned (.plain (OpenSpec.ofChange waxSealsSpec)) waxSealsCard

/-- THE TIED CARD OF 'muslinlaw05.WaxSame'. -/
def waxSameCard : Claim7 := { stood := { row := waxSameRow, standIns := [], harness := (true, "e10da8cc12bddfe6f149ab3c4156147fc30ae5e7ef16ada58953bf7950f17c13"), looks := false }, kinds := [], alts := [], laidByText := true, laidKinds := [.data, .data, .data], laidTests := true, laidLooks := .later }
def WaxSameCardSaid : Prop := Claim7.holds Tryd.pinned (.plain (OpenSpec.ofChange waxSameSpec)) waxSameCard

/-- THE TIED CARD OF 'muslinlaw05.WaxKnown'. -/
def waxKnownCard : Claim7 := { stood := { row := waxKnownRow, standIns := [], harness := (true, "e10da8cc12bddfe6f149ab3c4156147fc30ae5e7ef16ada58953bf7950f17c13"), looks := false }, kinds := [], alts := [], laidByText := true, laidKinds := [.data, .data, .data], laidTests := true, laidLooks := .later }
def WaxKnownCardSaid : Prop := Claim7.holds Tryd.pinned (.plain (OpenSpec.ofChange waxKnownSpec)) waxKnownCard

/-- THE SECOND FORM's CARD OF 'muslinlaw05.WaxKeys'. -/
def waxKeysUptoCard : Claim7 := { stood := { row := waxKeysUptoRow, standIns := [], harness := (true, "e10da8cc12bddfe6f149ab3c4156147fc30ae5e7ef16ada58953bf7950f17c13"), looks := false }, kinds := [], alts := [], laidByText := true, laidKinds := [.data, .data, .data], laidTests := true, laidLooks := .later }
def WaxKeysUptoCardSaid : Prop := Claim7.holds Tryd.pinned (.plain (OpenSpec.upto waxKeysSpec)) waxKeysUptoCard

/-- THE SECOND FORM's CARD OF 'muslinlaw05.WaxParts'. -/
def waxPartsUptoCard : Claim7 := { stood := { row := waxPartsUptoRow, standIns := [], harness := (true, "e10da8cc12bddfe6f149ab3c4156147fc30ae5e7ef16ada58953bf7950f17c13"), looks := false }, kinds := [], alts := [], laidByText := true, laidKinds := [.data, .data, .data], laidTests := true, laidLooks := .later }
def WaxPartsUptoCardSaid : Prop := Claim7.holds Tryd.pinned (.plain (OpenSpec.upto waxPartsSpec)) waxPartsUptoCard

/-- THE SECOND FORM's CARD OF 'muslinlaw05.WaxSeals'. -/
def waxSealsUptoCard : Claim7 := { stood := { row := waxSealsUptoRow, standIns := [], harness := (true, "e10da8cc12bddfe6f149ab3c4156147fc30ae5e7ef16ada58953bf7950f17c13"), looks := false }, kinds := [], alts := [], laidByText := true, laidKinds := [.data, .data, .data], laidTests := true, laidLooks := .later }
def WaxSealsUptoCardSaid : Prop := Claim7.holds Tryd.pinned (.plain (OpenSpec.upto waxSealsSpec)) waxSealsUptoCard

/-- THE SECOND FORM's CARD OF 'muslinlaw05.WaxSame'. -/
def waxSameUptoCard : Claim7 := { stood := { row := waxSameUptoRow, standIns := [], harness := (true, "e10da8cc12bddfe6f149ab3c4156147fc30ae5e7ef16ada58953bf7950f17c13"), looks := false }, kinds := [], alts := [], laidByText := true, laidKinds := [.data, .data, .data], laidTests := true, laidLooks := .later }
def WaxSameUptoCardSaid : Prop := Claim7.holds Tryd.pinned (.plain (OpenSpec.upto waxSameSpec)) waxSameUptoCard

/-- THE SECOND FORM's CARD OF 'muslinlaw05.WaxKnown'. -/
def waxKnownUptoCard : Claim7 := { stood := { row := waxKnownUptoRow, standIns := [], harness := (true, "e10da8cc12bddfe6f149ab3c4156147fc30ae5e7ef16ada58953bf7950f17c13"), looks := false }, kinds := [], alts := [], laidByText := true, laidKinds := [.data, .data, .data], laidTests := true, laidLooks := .later }
def WaxKnownUptoCardSaid : Prop := Claim7.holds Tryd.pinned (.plain (OpenSpec.upto waxKnownSpec)) waxKnownUptoCard
end Rows
end Go.Proofs.YtclfmgkomkmbjaaDoor
