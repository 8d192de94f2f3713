/-
  DERIVED. GIVEN WITH THE SEED: THE CARDS: each row of YtpnkcajlgaokiaaDoorRows.lean that lists a variable, with what it lists TIED to the program's text (the seventh form; the later family's looks); each row that meets fmt, with fmt's text TOLD by the authors' own Lean function (tested against real Go, not proved from fmt's source: count such statements apart). THE CARD IS WHAT COUNTS. Prove the row's statement (the work); the ties are given (YtpnkcajlgaokiaaDoorTie.lean); close each card by the builder's one call (the guide's Derived/Test/ToyasCard.lean, 'card_holds'). Laid BY PROGRAM, IN A SANDBOX (cutbox-door.mjs). By AI agents, Wed Nov 11 2026. No macro, syntax, notation, axiom, sorry.
-/
import Derived.Test.YtpnkcajlgaokiaaDoorRows
import GoSem.ClaimSeven
namespace Go.Proofs.YtpnkcajlgaokiaaDoor
namespace Rows

/-- THE TIED CARD OF 'postilionlaw05.ScalarReduces'. -/
def scalarReducesCard : Claim7 := { stood := { row := scalarReducesRow, standIns := [], harness := (true, "c37421bdc33ae998b053f70a0570cfffb529ba3e0975ae6e3a00d7694d5ded54"), looks := false }, kinds := [], alts := [], laidByText := true, laidKinds := [.wider], laidTests := true, laidLooks := .later }
def ScalarReducesCardSaid : Prop := Claim7.holds Tryd.pinned (.plain (OpenSpec.ofChange scalarReducesSpec)) scalarReducesCard

/-- THE TIED CARD OF 'postilionlaw05.ScalarRing'. -/
def scalarRingCard : Claim7 := { stood := { row := scalarRingRow, standIns := [], harness := (true, "c37421bdc33ae998b053f70a0570cfffb529ba3e0975ae6e3a00d7694d5ded54"), looks := false }, kinds := [], alts := [], laidByText := true, laidKinds := [.wider], laidTests := true, laidLooks := .later }
def ScalarRingCardSaid : Prop := Claim7.holds Tryd.pinned (.plain (OpenSpec.ofChange scalarRingSpec)) scalarRingCard

/-- THE TIED CARD OF 'postilionlaw05.ScalarCanonical'. -/
def scalarCanonicalCard : Claim7 := { stood := { row := scalarCanonicalRow, standIns := [], harness := (true, "c37421bdc33ae998b053f70a0570cfffb529ba3e0975ae6e3a00d7694d5ded54"), looks := false }, kinds := [], alts := [], laidByText := true, laidKinds := [.wider], laidTests := true, laidLooks := .later }
def ScalarCanonicalCardSaid : Prop := Claim7.holds Tryd.pinned (.plain (OpenSpec.ofChange scalarCanonicalSpec)) scalarCanonicalCard

/-- THE TIED CARD OF 'postilionlaw05.ScalarAll'. -/
def scalarAllCard : Claim7 := { stood := { row := scalarAllRow, standIns := [], harness := (true, "c37421bdc33ae998b053f70a0570cfffb529ba3e0975ae6e3a00d7694d5ded54"), looks := false }, kinds := [], alts := [], laidByText := true, laidKinds := [.wider], laidTests := true, laidLooks := .later }
def ScalarAllCardSaid : Prop := Claim7.holds Tryd.pinned (.plain (OpenSpec.ofChange scalarAllSpec)) scalarAllCard

/-- THE SECOND FORM's CARD OF 'postilionlaw05.ScalarReduces'. -/
def scalarReducesUptoCard : Claim7 := { stood := { row := scalarReducesUptoRow, standIns := [], harness := (true, "c37421bdc33ae998b053f70a0570cfffb529ba3e0975ae6e3a00d7694d5ded54"), looks := false }, kinds := [], alts := [], laidByText := true, laidKinds := [.wider], laidTests := true, laidLooks := .later }
def ScalarReducesUptoCardSaid : Prop := Claim7.holds Tryd.pinned (.plain (OpenSpec.upto scalarReducesSpec)) scalarReducesUptoCard

/-- THE SECOND FORM's CARD OF 'postilionlaw05.ScalarRing'. -/
def scalarRingUptoCard : Claim7 := { stood := { row := scalarRingUptoRow, standIns := [], harness := (true, "c37421bdc33ae998b053f70a0570cfffb529ba3e0975ae6e3a00d7694d5ded54"), looks := false }, kinds := [], alts := [], laidByText := true, laidKinds := [.wider], laidTests := true, laidLooks := .later }
def ScalarRingUptoCardSaid : Prop := Claim7.holds Tryd.pinned (.plain (OpenSpec.upto scalarRingSpec)) scalarRingUptoCard

/-- THE SECOND FORM's CARD OF 'postilionlaw05.ScalarCanonical'. -/
def scalarCanonicalUptoCard : Claim7 := { stood := { row := scalarCanonicalUptoRow, standIns := [], harness := (true, "c37421bdc33ae998b053f70a0570cfffb529ba3e0975ae6e3a00d7694d5ded54"), looks := false }, kinds := [], alts := [], laidByText := true, laidKinds := [.wider], laidTests := true, laidLooks := .later }
def ScalarCanonicalUptoCardSaid : Prop := Claim7.holds Tryd.pinned (.plain (OpenSpec.upto scalarCanonicalSpec)) scalarCanonicalUptoCard

/-- THE SECOND FORM's CARD OF 'postilionlaw05.ScalarAll'. -/
def scalarAllUptoCard : Claim7 := { stood := { row := scalarAllUptoRow, standIns := [], harness := (true, "c37421bdc33ae998b053f70a0570cfffb529ba3e0975ae6e3a00d7694d5ded54"), looks := false }, kinds := [], alts := [], laidByText := true, laidKinds := [.wider], laidTests := true, laidLooks := .later }
def ScalarAllUptoCardSaid : Prop := Claim7.holds Tryd.pinned (.plain (OpenSpec.upto scalarAllSpec)) scalarAllUptoCard
end Rows
end Go.Proofs.YtpnkcajlgaokiaaDoor
