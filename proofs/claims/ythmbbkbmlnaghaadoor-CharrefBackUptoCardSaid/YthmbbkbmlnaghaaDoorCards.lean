/-
  DERIVED. GIVEN WITH THE SEED: THE CARDS: each row of YthmbbkbmlnaghaaDoorRows.lean that lists a variable, with what it lists TIED to the program's text (the seventh form; the later family's looks); each row that meets fmt, with fmt's text TOLD by the authors' own Lean function (tested against real Go, not proved from fmt's source: count such statements apart). THE CARD IS WHAT COUNTS. Prove the row's statement (the work); the ties are given (YthmbbkbmlnaghaaDoorTie.lean); close each card by the builder's one call (the guide's Derived/Test/ToyasCard.lean, 'card_holds'). Laid BY PROGRAM, IN A SANDBOX (cutbox-door.mjs). By AI agents, Wed Nov 11 2026. No macro, syntax, notation, axiom, sorry.
-/
import Derived.Test.YthmbbkbmlnaghaaDoorRows
import GoSem.ClaimSeven
namespace Go.Proofs.YthmbbkbmlnaghaaDoor
namespace Rows

/-- THE TIED CARD OF 'sievelaw06.CharrefNumbers'. -/
def charrefNumbersCard : Claim7 := { stood := { row := charrefNumbersRow, standIns := [], harness := (true, "e2b3920c46095fbad717a223c89f14967331a6e309e7b554ed3b0864895980a0"), looks := false }, kinds := [], alts := [], laidByText := true, laidKinds := [.data, .data, .data], laidTests := true, laidLooks := .later }
def CharrefNumbersCardSaid : Prop := Claim7.holds Tryd.pinned (.plain (OpenSpec.ofChange charrefNumbersSpec)) charrefNumbersCard

/-- THE TIED CARD OF 'sievelaw06.CharrefLess'. -/
def charrefLessCard : Claim7 := { stood := { row := charrefLessRow, standIns := [], harness := (true, "e2b3920c46095fbad717a223c89f14967331a6e309e7b554ed3b0864895980a0"), looks := false }, kinds := [], alts := [], laidByText := true, laidKinds := [.data, .data, .data], laidTests := true, laidLooks := .later }
def CharrefLessCardSaid : Prop := Claim7.holds Tryd.pinned (.plain (OpenSpec.ofChange charrefLessSpec)) charrefLessCard

/-- THE TIED CARD OF 'sievelaw06.CharrefAscii'. -/
def charrefAsciiCard : Claim7 := { stood := { row := charrefAsciiRow, standIns := [], harness := (true, "e2b3920c46095fbad717a223c89f14967331a6e309e7b554ed3b0864895980a0"), looks := false }, kinds := [], alts := [], laidByText := true, laidKinds := [.data, .data, .data, .data, .pinned, .pinned], laidTests := true, laidLooks := .later }
def CharrefAsciiCardSaid : Prop := Claim7.holds Tryd.pinned (.plain (OpenSpec.ofChange charrefAsciiSpec)) charrefAsciiCard

/-- THE TIED CARD OF 'sievelaw06.CharrefBack'. -/
def charrefBackCard : Claim7 := { stood := { row := charrefBackRow, standIns := [], harness := (true, "e2b3920c46095fbad717a223c89f14967331a6e309e7b554ed3b0864895980a0"), looks := false }, kinds := [], alts := [], laidByText := true, laidKinds := [.data, .data, .data, .data, .pinned, .pinned], laidTests := true, laidLooks := .later }
def CharrefBackCardSaid : Prop := Claim7.holds Tryd.pinned (.plain (OpenSpec.ofChange charrefBackSpec)) charrefBackCard

/-- THE SECOND FORM's CARD OF 'sievelaw06.CharrefNumbers'. -/
def charrefNumbersUptoCard : Claim7 := { stood := { row := charrefNumbersUptoRow, standIns := [], harness := (true, "e2b3920c46095fbad717a223c89f14967331a6e309e7b554ed3b0864895980a0"), looks := false }, kinds := [], alts := [], laidByText := true, laidKinds := [.data, .data, .data], laidTests := true, laidLooks := .later }
def CharrefNumbersUptoCardSaid : Prop := Claim7.holds Tryd.pinned (.plain (OpenSpec.upto charrefNumbersSpec)) charrefNumbersUptoCard

/-- THE SECOND FORM's CARD OF 'sievelaw06.CharrefLess'. -/
def charrefLessUptoCard : Claim7 := { stood := { row := charrefLessUptoRow, standIns := [], harness := (true, "e2b3920c46095fbad717a223c89f14967331a6e309e7b554ed3b0864895980a0"), looks := false }, kinds := [], alts := [], laidByText := true, laidKinds := [.data, .data, .data], laidTests := true, laidLooks := .later }
def CharrefLessUptoCardSaid : Prop := Claim7.holds Tryd.pinned (.plain (OpenSpec.upto charrefLessSpec)) charrefLessUptoCard

/-- THE SECOND FORM's CARD OF 'sievelaw06.CharrefAscii'. -/
def charrefAsciiUptoCard : Claim7 := { stood := { row := charrefAsciiUptoRow, standIns := [], harness := (true, "e2b3920c46095fbad717a223c89f14967331a6e309e7b554ed3b0864895980a0"), looks := false }, kinds := [], alts := [], laidByText := true, laidKinds := [.data, .data, .data, .data, .pinned, .pinned], laidTests := true, laidLooks := .later }
def CharrefAsciiUptoCardSaid : Prop := Claim7.holds Tryd.pinned (.plain (OpenSpec.upto charrefAsciiSpec)) charrefAsciiUptoCard

/-- THE SECOND FORM's CARD OF 'sievelaw06.CharrefBack'. -/
def charrefBackUptoCard : Claim7 := { stood := { row := charrefBackUptoRow, standIns := [], harness := (true, "e2b3920c46095fbad717a223c89f14967331a6e309e7b554ed3b0864895980a0"), looks := false }, kinds := [], alts := [], laidByText := true, laidKinds := [.data, .data, .data, .data, .pinned, .pinned], laidTests := true, laidLooks := .later }
def CharrefBackUptoCardSaid : Prop := Claim7.holds Tryd.pinned (.plain (OpenSpec.upto charrefBackSpec)) charrefBackUptoCard
end Rows
end Go.Proofs.YthmbbkbmlnaghaaDoor
