/-
  DERIVED. GIVEN WITH THE SEED: THE CARDS: each row of YtpkllbnaoiggkaaDoorRows.lean that lists a variable, with what it lists TIED to the program's text (the seventh form; the later family's looks); each row that meets fmt, with fmt's text TOLD by the authors' own Lean function (tested against real Go, not proved from fmt's source: count such statements apart). THE CARD IS WHAT COUNTS. Prove the row's statement (the work); the ties are given (YtpkllbnaoiggkaaDoorTie.lean); close each card by the builder's one call (the guide's Derived/Test/ToyasCard.lean, 'card_holds'). Laid BY PROGRAM, IN A SANDBOX (cutbox-door.mjs). By AI agents, Wed Nov 11 2026. No macro, syntax, notation, axiom, sorry.
-/
import Derived.Test.YtpkllbnaoiggkaaDoorRows
import GoSem.ClaimSeven
namespace Go.Proofs.YtpkllbnaoiggkaaDoor
namespace Rows

/-- THE TIED CARD OF 'muslinlaw06.VeilTells'. -/
def veilTellsCard : Claim7 := { stood := { row := veilTellsRow, standIns := [], harness := (true, "0faf7ac4e71ca55ffde55ac316cad1730df825c3a7b41e885b2417c576412500"), looks := true }, kinds := [], alts := [], laidByText := true, laidKinds := [.data, .data, .data, .sentinel, .sentinel], laidTests := true, laidLooks := .later }
def VeilTellsCardSaid : Prop := Claim7.holds Tryd.pinned (.plain (OpenSpec.ofChange veilTellsSpec)) veilTellsCard

/-- THE TIED CARD OF 'muslinlaw06.VeilOrder'. -/
def veilOrderCard : Claim7 := { stood := { row := veilOrderRow, standIns := [], harness := (true, "0faf7ac4e71ca55ffde55ac316cad1730df825c3a7b41e885b2417c576412500"), looks := true }, kinds := [], alts := [], laidByText := true, laidKinds := [.data, .data, .data, .sentinel, .sentinel], laidTests := true, laidLooks := .later }
def VeilOrderCardSaid : Prop := Claim7.holds Tryd.pinned (.plain (OpenSpec.ofChange veilOrderSpec)) veilOrderCard

/-- THE TIED CARD OF 'muslinlaw06.VeilBounds'. -/
def veilBoundsCard : Claim7 := { stood := { row := veilBoundsRow, standIns := [], harness := (true, "0faf7ac4e71ca55ffde55ac316cad1730df825c3a7b41e885b2417c576412500"), looks := true }, kinds := [], alts := [], laidByText := true, laidKinds := [.data, .data, .data, .sentinel, .sentinel], laidTests := true, laidLooks := .later }
def VeilBoundsCardSaid : Prop := Claim7.holds Tryd.pinned (.plain (OpenSpec.ofChange veilBoundsSpec)) veilBoundsCard

/-- THE TIED CARD OF 'muslinlaw06.VeilLaws'. -/
def veilLawsCard : Claim7 := { stood := { row := veilLawsRow, standIns := [], harness := (true, "0faf7ac4e71ca55ffde55ac316cad1730df825c3a7b41e885b2417c576412500"), looks := true }, kinds := [], alts := [], laidByText := true, laidKinds := [.data, .data, .data, .sentinel, .sentinel], laidTests := true, laidLooks := .later }
def VeilLawsCardSaid : Prop := Claim7.holds Tryd.pinned (.plain (OpenSpec.ofChange veilLawsSpec)) veilLawsCard

/-- THE TIED CARD OF 'muslinlaw06.VeilKnown'. -/
def veilKnownCard : Claim7 := { stood := { row := veilKnownRow, standIns := [], harness := (true, "0faf7ac4e71ca55ffde55ac316cad1730df825c3a7b41e885b2417c576412500"), looks := true }, kinds := [], alts := [], laidByText := true, laidKinds := [.data, .data, .data, .sentinel, .sentinel], laidTests := true, laidLooks := .later }
def VeilKnownCardSaid : Prop := Claim7.holds Tryd.pinned (.plain (OpenSpec.ofChange veilKnownSpec)) veilKnownCard

/-- THE TIED CARD OF 'muslinlaw06.VeilBack'. -/
def veilBackCard : Claim7 := { stood := { row := veilBackRow, standIns := [], harness := (true, "0faf7ac4e71ca55ffde55ac316cad1730df825c3a7b41e885b2417c576412500"), looks := true }, kinds := [], alts := [], laidByText := true, laidKinds := [.data, .data, .data, .sentinel, .sentinel], laidTests := true, laidLooks := .later }
def VeilBackCardSaid : Prop := Claim7.holds Tryd.pinned (.plain (OpenSpec.ofChange veilBackSpec)) veilBackCard

/-- THE SECOND FORM's CARD OF 'muslinlaw06.VeilTells'. -/
def veilTellsUptoCard : Claim7 := { stood := { row := veilTellsUptoRow, standIns := [], harness := (true, "0faf7ac4e71ca55ffde55ac316cad1730df825c3a7b41e885b2417c576412500"), looks := true }, kinds := [], alts := [], laidByText := true, laidKinds := [.data, .data, .data, .sentinel, .sentinel], laidTests := true, laidLooks := .later }
def VeilTellsUptoCardSaid : Prop := Claim7.holds Tryd.pinned (.plain (OpenSpec.upto veilTellsSpec)) veilTellsUptoCard

/-- THE SECOND FORM's CARD OF 'muslinlaw06.VeilOrder'. -/
def veilOrderUptoCard : Claim7 := { stood := { row := veilOrderUptoRow, standIns := [], harness := (true, "0faf7ac4e71ca55ffde55ac316cad1730df825c3a7b41e885b2417c576412500"), looks := true }, kinds := [], alts := [], laidByText := true, laidKinds := [.data, .data, .data, .sentinel, .sentinel], laidTests := true, laidLooks := .later }
def VeilOrderUptoCardSaid : Prop := Claim7.holds Tryd.pinned (.plain (OpenSpec.upto veilOrderSpec)) veilOrderUptoCard

/-- THE SECOND FORM's CARD OF 'muslinlaw06.VeilBounds'. -/
def veilBoundsUptoCard : Claim7 := { stood := { row := veilBoundsUptoRow, standIns := [], harness := (true, "0faf7ac4e71ca55ffde55ac316cad1730df825c3a7b41e885b2417c576412500"), looks := true }, kinds := [], alts := [], laidByText := true, laidKinds := [.data, .data, .data, .sentinel, .sentinel], laidTests := true, laidLooks := .later }
def VeilBoundsUptoCardSaid : Prop := Claim7.holds Tryd.pinned (.plain (OpenSpec.upto veilBoundsSpec)) veilBoundsUptoCard

/-- THE SECOND FORM's CARD OF 'muslinlaw06.VeilLaws'. -/
def veilLawsUptoCard : Claim7 := { stood := { row := veilLawsUptoRow, standIns := [], harness := (true, "0faf7ac4e71ca55ffde55ac316cad1730df825c3a7b41e885b2417c576412500"), looks := true }, kinds := [], alts := [], laidByText := true, laidKinds := [.data, .data, .data, .sentinel, .sentinel], laidTests := true, laidLooks := .later }
def VeilLawsUptoCardSaid : Prop := Claim7.holds Tryd.pinned (.plain (OpenSpec.upto veilLawsSpec)) veilLawsUptoCard

/-- THE SECOND FORM's CARD OF 'muslinlaw06.VeilKnown'. -/
def veilKnownUptoCard : Claim7 := { stood := { row := veilKnownUptoRow, standIns := [], harness := (true, "0faf7ac4e71ca55ffde55ac316cad1730df825c3a7b41e885b2417c576412500"), looks := true }, kinds := [], alts := [], laidByText := true, laidKinds := [.data, .data, .data, .sentinel, .sentinel], laidTests := true, laidLooks := .later }
def VeilKnownUptoCardSaid : Prop := Claim7.holds Tryd.pinned (.plain (OpenSpec.upto veilKnownSpec)) veilKnownUptoCard

/-- THE SECOND FORM's CARD OF 'muslinlaw06.VeilBack'. -/
def veilBackUptoCard : Claim7 := { stood := { row := veilBackUptoRow, standIns := [], harness := (true, "0faf7ac4e71ca55ffde55ac316cad1730df825c3a7b41e885b2417c576412500"), looks := true }, kinds := [], alts := [], laidByText := true, laidKinds := [.data, .data, .data, .sentinel, .sentinel], laidTests := true, laidLooks := .later }
def VeilBackUptoCardSaid : Prop := Claim7.holds Tryd.pinned (.plain (OpenSpec.upto veilBackSpec)) veilBackUptoCard
end Rows
end Go.Proofs.YtpkllbnaoiggkaaDoor
