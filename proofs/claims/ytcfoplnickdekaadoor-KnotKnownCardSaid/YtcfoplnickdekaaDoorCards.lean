/-
  DERIVED. GIVEN WITH THE SEED: THE CARDS: each row of YtcfoplnickdekaaDoorRows.lean that lists a variable, with what it lists TIED to the program's text (the seventh form; the later family's looks); each row that meets fmt, with fmt's text TOLD by the authors' own Lean function (tested against real Go, not proved from fmt's source: count such statements apart). THE CARD IS WHAT COUNTS. Prove the row's statement (the work); the ties are given (YtcfoplnickdekaaDoorTie.lean); close each card by the builder's one call (the guide's Derived/Test/ToyasCard.lean, 'card_holds'). Laid BY PROGRAM, IN A SANDBOX (cutbox-door.mjs). By AI agents, Wed Nov 11 2026. No macro, syntax, notation, axiom, sorry.
-/
import Derived.Test.YtcfoplnickdekaaDoorRows
import GoSem.ClaimSeven
namespace Go.Proofs.YtcfoplnickdekaaDoor
namespace Rows

/-- THE TIED CARD OF 'muslinlaw04.KnotApart'. -/
def knotApartCard : Claim7 := { stood := { row := knotApartRow, standIns := [], harness := (true, "ce3c850bfe1ddaf994873a67a79e7c4bacfaab3f888afc418f1969e54a002a81"), looks := false }, kinds := [], alts := [], laidByText := true, laidKinds := [.data, .data, .data], laidTests := true, laidLooks := .later }
def KnotApartCardSaid : Prop := Claim7.holds Tryd.pinned (.plain (OpenSpec.ofChange knotApartSpec)) knotApartCard

/-- THE TIED CARD OF 'muslinlaw04.KnotDoes'. -/
def knotDoesCard : Claim7 := { stood := { row := knotDoesRow, standIns := [], harness := (true, "ce3c850bfe1ddaf994873a67a79e7c4bacfaab3f888afc418f1969e54a002a81"), looks := false }, kinds := [], alts := [], laidByText := true, laidKinds := [.data, .data, .data], laidTests := true, laidLooks := .later }
def KnotDoesCardSaid : Prop := Claim7.holds Tryd.pinned (.plain (OpenSpec.ofChange knotDoesSpec)) knotDoesCard

/-- THE TIED CARD OF 'muslinlaw04.KnotPieces'. -/
def knotPiecesCard : Claim7 := { stood := { row := knotPiecesRow, standIns := [], harness := (true, "ce3c850bfe1ddaf994873a67a79e7c4bacfaab3f888afc418f1969e54a002a81"), looks := false }, kinds := [], alts := [], laidByText := true, laidKinds := [.data, .data, .data], laidTests := true, laidLooks := .later }
def KnotPiecesCardSaid : Prop := Claim7.holds Tryd.pinned (.plain (OpenSpec.ofChange knotPiecesSpec)) knotPiecesCard

/-- THE TIED CARD OF 'muslinlaw04.KnotKnown'. -/
def knotKnownCard : Claim7 := { stood := { row := knotKnownRow, standIns := [], harness := (true, "ce3c850bfe1ddaf994873a67a79e7c4bacfaab3f888afc418f1969e54a002a81"), looks := false }, kinds := [], alts := [], laidByText := true, laidKinds := [.data, .data, .data], laidTests := true, laidLooks := .later }
def KnotKnownCardSaid : Prop := Claim7.holds Tryd.pinned (.plain (OpenSpec.ofChange knotKnownSpec)) knotKnownCard

/-- THE SECOND FORM's CARD OF 'muslinlaw04.KnotApart'. -/
def knotApartUptoCard : Claim7 := { stood := { row := knotApartUptoRow, standIns := [], harness := (true, "ce3c850bfe1ddaf994873a67a79e7c4bacfaab3f888afc418f1969e54a002a81"), looks := false }, kinds := [], alts := [], laidByText := true, laidKinds := [.data, .data, .data], laidTests := true, laidLooks := .later }
def KnotApartUptoCardSaid : Prop := Claim7.holds Tryd.pinned (.plain (OpenSpec.upto knotApartSpec)) knotApartUptoCard

/-- THE SECOND FORM's CARD OF 'muslinlaw04.KnotDoes'. -/
def knotDoesUptoCard : Claim7 := { stood := { row := knotDoesUptoRow, standIns := [], harness := (true, "ce3c850bfe1ddaf994873a67a79e7c4bacfaab3f888afc418f1969e54a002a81"), looks := false }, kinds := [], alts := [], laidByText := true, laidKinds := [.data, .data, .data], laidTests := true, laidLooks := .later }
def KnotDoesUptoCardSaid : Prop := Claim7.holds Tryd.pinned (.plain (OpenSpec.upto knotDoesSpec)) knotDoesUptoCard

/-- THE SECOND FORM's CARD OF 'muslinlaw04.KnotPieces'. -/
def knotPiecesUptoCard : Claim7 := { stood := { row := knotPiecesUptoRow, standIns := [], harness := (true, "ce3c850bfe1ddaf994873a67a79e7c4bacfaab3f888afc418f1969e54a002a81"), looks := false }, kinds := [], alts := [], laidByText := true, laidKinds := [.data, .data, .data], laidTests := true, laidLooks := .later }
def KnotPiecesUptoCardSaid : Prop := Claim7.holds Tryd.pinned (.plain (OpenSpec.upto knotPiecesSpec)) knotPiecesUptoCard

/-- THE SECOND FORM's CARD OF 'muslinlaw04.KnotKnown'. -/
def knotKnownUptoCard : Claim7 := { stood := { row := knotKnownUptoRow, standIns := [], harness := (true, "ce3c850bfe1ddaf994873a67a79e7c4bacfaab3f888afc418f1969e54a002a81"), looks := false }, kinds := [], alts := [], laidByText := true, laidKinds := [.data, .data, .data], laidTests := true, laidLooks := .later }
def KnotKnownUptoCardSaid : Prop := Claim7.holds Tryd.pinned (.plain (OpenSpec.upto knotKnownSpec)) knotKnownUptoCard
end Rows
end Go.Proofs.YtcfoplnickdekaaDoor
