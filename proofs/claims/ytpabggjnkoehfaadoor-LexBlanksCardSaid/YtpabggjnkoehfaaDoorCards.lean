/-
  DERIVED. GIVEN WITH THE SEED: THE CARDS: each row of YtpabggjnkoehfaaDoorRows.lean that lists a variable, with what it lists TIED to the program's text (the seventh form; the later family's looks); each row that meets fmt, with fmt's text TOLD by the authors' own Lean function (tested against real Go, not proved from fmt's source: count such statements apart). THE CARD IS WHAT COUNTS. Prove the row's statement (the work); the ties are given (YtpabggjnkoehfaaDoorTie.lean); close each card by the builder's one call (the guide's Derived/Test/ToyasCard.lean, 'card_holds'). Laid BY PROGRAM, IN A SANDBOX (cutbox-door.mjs). By AI agents, Wed Nov 11 2026. No macro, syntax, notation, axiom, sorry.
-/
import Derived.Test.YtpabggjnkoehfaaDoorRows
import GoSem.ClaimSeven
namespace Go.Proofs.YtpabggjnkoehfaaDoor
namespace Rows

/-- THE TIED CARD OF 'counterpanelaw5.RefParse'. -/
def refParseCard : Claim7 := { stood := { row := refParseRow, standIns := [], harness := (true, "dc02940d943ea1a5d441cb641b637b8c9cd66f34131654b1d51b5bc17fb0a99b"), looks := true }, kinds := [], alts := [], laidByText := true, laidKinds := [.data, .data, .data, .sentinel, .sentinel], laidTests := true, laidLooks := .later }
def RefParseCardSaid : Prop := Claim7.holds Tryd.pinned (.plain (OpenSpec.ofChange refParseSpec)) refParseCard

/-- THE TIED CARD OF 'counterpanelaw5.RefPrint'. -/
def refPrintCard : Claim7 := { stood := { row := refPrintRow, standIns := [], harness := (true, "dc02940d943ea1a5d441cb641b637b8c9cd66f34131654b1d51b5bc17fb0a99b"), looks := true }, kinds := [], alts := [], laidByText := true, laidKinds := [.data, .data, .data, .sentinel, .sentinel], laidTests := true, laidLooks := .later }
def RefPrintCardSaid : Prop := Claim7.holds Tryd.pinned (.plain (OpenSpec.ofChange refPrintSpec)) refPrintCard

/-- THE TIED CARD OF 'counterpanelaw5.RefColumns'. -/
def refColumnsCard : Claim7 := { stood := { row := refColumnsRow, standIns := [], harness := (true, "dc02940d943ea1a5d441cb641b637b8c9cd66f34131654b1d51b5bc17fb0a99b"), looks := true }, kinds := [], alts := [], laidByText := true, laidKinds := [.data, .data, .data, .sentinel, .sentinel], laidTests := true, laidLooks := .later }
def RefColumnsCardSaid : Prop := Claim7.holds Tryd.pinned (.plain (OpenSpec.ofChange refColumnsSpec)) refColumnsCard

/-- THE TIED CARD OF 'counterpanelaw6.LexBlanks'. -/
def lexBlanksCard : Claim7 := { stood := { row := lexBlanksRow, standIns := [], harness := (true, "dc02940d943ea1a5d441cb641b637b8c9cd66f34131654b1d51b5bc17fb0a99b"), looks := true }, kinds := [], alts := [], laidByText := true, laidKinds := [.data, .data, .data, .data, .sentinel, .sentinel, .pinned], laidTests := true, laidLooks := .later }
def LexBlanksCardSaid : Prop := Claim7.holds Tryd.pinned (.plain (OpenSpec.ofChange lexBlanksSpec)) lexBlanksCard

/-- THE SECOND FORM's CARD OF 'counterpanelaw5.RefParse'. -/
def refParseUptoCard : Claim7 := { stood := { row := refParseUptoRow, standIns := [], harness := (true, "dc02940d943ea1a5d441cb641b637b8c9cd66f34131654b1d51b5bc17fb0a99b"), looks := true }, kinds := [], alts := [], laidByText := true, laidKinds := [.data, .data, .data, .sentinel, .sentinel], laidTests := true, laidLooks := .later }
def RefParseUptoCardSaid : Prop := Claim7.holds Tryd.pinned (.plain (OpenSpec.upto refParseSpec)) refParseUptoCard

/-- THE SECOND FORM's CARD OF 'counterpanelaw5.RefPrint'. -/
def refPrintUptoCard : Claim7 := { stood := { row := refPrintUptoRow, standIns := [], harness := (true, "dc02940d943ea1a5d441cb641b637b8c9cd66f34131654b1d51b5bc17fb0a99b"), looks := true }, kinds := [], alts := [], laidByText := true, laidKinds := [.data, .data, .data, .sentinel, .sentinel], laidTests := true, laidLooks := .later }
def RefPrintUptoCardSaid : Prop := Claim7.holds Tryd.pinned (.plain (OpenSpec.upto refPrintSpec)) refPrintUptoCard

/-- THE SECOND FORM's CARD OF 'counterpanelaw5.RefColumns'. -/
def refColumnsUptoCard : Claim7 := { stood := { row := refColumnsUptoRow, standIns := [], harness := (true, "dc02940d943ea1a5d441cb641b637b8c9cd66f34131654b1d51b5bc17fb0a99b"), looks := true }, kinds := [], alts := [], laidByText := true, laidKinds := [.data, .data, .data, .sentinel, .sentinel], laidTests := true, laidLooks := .later }
def RefColumnsUptoCardSaid : Prop := Claim7.holds Tryd.pinned (.plain (OpenSpec.upto refColumnsSpec)) refColumnsUptoCard

/-- THE SECOND FORM's CARD OF 'counterpanelaw6.LexBlanks'. -/
def lexBlanksUptoCard : Claim7 := { stood := { row := lexBlanksUptoRow, standIns := [], harness := (true, "dc02940d943ea1a5d441cb641b637b8c9cd66f34131654b1d51b5bc17fb0a99b"), looks := true }, kinds := [], alts := [], laidByText := true, laidKinds := [.data, .data, .data, .data, .sentinel, .sentinel, .pinned], laidTests := true, laidLooks := .later }
def LexBlanksUptoCardSaid : Prop := Claim7.holds Tryd.pinned (.plain (OpenSpec.upto lexBlanksSpec)) lexBlanksUptoCard
end Rows
end Go.Proofs.YtpabggjnkoehfaaDoor
