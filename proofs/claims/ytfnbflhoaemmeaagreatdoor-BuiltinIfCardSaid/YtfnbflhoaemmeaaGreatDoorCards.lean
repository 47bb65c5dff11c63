/-
  DERIVED. GIVEN WITH THE SEED: THE CARDS: each row of YtfnbflhoaemmeaaGreatDoorRows.lean that lists a variable, with what it lists TIED to the program's text (the seventh form; the later family's looks); each row that meets fmt, with fmt's text TOLD by the authors' own Lean function (tested against real Go, not proved from fmt's source: count such statements apart). THE CARD IS WHAT COUNTS. Prove the row's statement (the work); the ties are given (YtfnbflhoaemmeaaGreatDoorTie.lean); close each card by the builder's one call (the guide's Derived/Test/ToyasCard.lean, 'card_holds'). Laid BY PROGRAM, IN A SANDBOX (cutbox-door.mjs). By AI agents, Wed Nov 11 2026. No macro, syntax, notation, axiom, sorry.
-/
import Derived.Test.YtfnbflhoaemmeaaGreatDoorRows
import GoSem.ClaimSeven
namespace Go.Proofs.YtfnbflhoaemmeaaGreatDoor
namespace Rows

/-- THE TIED CARD OF 'counterpanelaw2.ValueOrder'. -/
def valueOrderCard : Claim7 := { stood := { row := valueOrderRow, standIns := [], harness := (true, "37833a39bebf6ddc79b4df4b922ce2d4a39b6f0540a30406b84ec1c0ea2fdf50"), looks := true }, kinds := [], alts := [], laidByText := true, laidKinds := [.data, .data, .data, .data, .sentinel, .sentinel, .pinned], laidTests := true, laidLooks := .later }
def ValueOrderCardSaid : Prop := Claim7.holds Tryz.pinned (.plain (OpenSpec.ofChange valueOrderSpec)) valueOrderCard

/-- THE TIED CARD OF 'counterpanelaw2.ValueKinds'. -/
def valueKindsCard : Claim7 := { stood := { row := valueKindsRow, standIns := [], harness := (true, "37833a39bebf6ddc79b4df4b922ce2d4a39b6f0540a30406b84ec1c0ea2fdf50"), looks := true }, kinds := [], alts := [], laidByText := true, laidKinds := [.data, .data, .data, .data, .sentinel, .sentinel, .pinned], laidTests := true, laidLooks := .later }
def ValueKindsCardSaid : Prop := Claim7.holds Tryz.pinned (.plain (OpenSpec.ofChange valueKindsSpec)) valueKindsCard

/-- THE TIED CARD OF 'counterpanelaw12.BuiltinWorst'. -/
def builtinWorstCard : Claim7 := { stood := { row := builtinWorstRow, standIns := [], harness := (true, "37833a39bebf6ddc79b4df4b922ce2d4a39b6f0540a30406b84ec1c0ea2fdf50"), looks := true }, kinds := [], alts := [], laidByText := true, laidKinds := [.data, .data, .data, .data, .sentinel, .sentinel, .pinned], laidTests := true, laidLooks := .later }
def BuiltinWorstCardSaid : Prop := Claim7.holds Tryz.pinned (.plain (OpenSpec.ofChange builtinWorstSpec)) builtinWorstCard

/-- THE TIED CARD OF 'counterpanelaw12.BuiltinIf'. -/
def builtinIfCard : Claim7 := { stood := { row := builtinIfRow, standIns := [], harness := (true, "37833a39bebf6ddc79b4df4b922ce2d4a39b6f0540a30406b84ec1c0ea2fdf50"), looks := true }, kinds := [], alts := [], laidByText := true, laidKinds := [.data, .data, .data, .data, .sentinel, .sentinel, .pinned], laidTests := true, laidLooks := .later }
def BuiltinIfCardSaid : Prop := Claim7.holds Tryz.pinned (.plain (OpenSpec.ofChange builtinIfSpec)) builtinIfCard

/-- THE TIED CARD OF 'counterpanelaw12.BuiltinCompare'. -/
def builtinCompareCard : Claim7 := { stood := { row := builtinCompareRow, standIns := [], harness := (true, "37833a39bebf6ddc79b4df4b922ce2d4a39b6f0540a30406b84ec1c0ea2fdf50"), looks := true }, kinds := [], alts := [], laidByText := true, laidKinds := [.data, .data, .data, .data, .sentinel, .sentinel, .pinned], laidTests := true, laidLooks := .later }
def BuiltinCompareCardSaid : Prop := Claim7.holds Tryz.pinned (.plain (OpenSpec.ofChange builtinCompareSpec)) builtinCompareCard

/-- THE TIED CARD OF 'counterpanelaw12.BuiltinErrors'. -/
def builtinErrorsCard : Claim7 := { stood := { row := builtinErrorsRow, standIns := [], harness := (true, "37833a39bebf6ddc79b4df4b922ce2d4a39b6f0540a30406b84ec1c0ea2fdf50"), looks := true }, kinds := [], alts := [], laidByText := true, laidKinds := [.data, .data, .data, .data, .sentinel, .sentinel, .pinned], laidTests := true, laidLooks := .later }
def BuiltinErrorsCardSaid : Prop := Claim7.holds Tryz.pinned (.plain (OpenSpec.ofChange builtinErrorsSpec)) builtinErrorsCard

/-- THE SECOND FORM's CARD OF 'counterpanelaw2.ValueOrder'. -/
def valueOrderUptoCard : Claim7 := { stood := { row := valueOrderUptoRow, standIns := [], harness := (true, "37833a39bebf6ddc79b4df4b922ce2d4a39b6f0540a30406b84ec1c0ea2fdf50"), looks := true }, kinds := [], alts := [], laidByText := true, laidKinds := [.data, .data, .data, .data, .sentinel, .sentinel, .pinned], laidTests := true, laidLooks := .later }
def ValueOrderUptoCardSaid : Prop := Claim7.holds Tryz.pinned (.plain (OpenSpec.upto valueOrderSpec)) valueOrderUptoCard

/-- THE SECOND FORM's CARD OF 'counterpanelaw2.ValueKinds'. -/
def valueKindsUptoCard : Claim7 := { stood := { row := valueKindsUptoRow, standIns := [], harness := (true, "37833a39bebf6ddc79b4df4b922ce2d4a39b6f0540a30406b84ec1c0ea2fdf50"), looks := true }, kinds := [], alts := [], laidByText := true, laidKinds := [.data, .data, .data, .data, .sentinel, .sentinel, .pinned], laidTests := true, laidLooks := .later }
def ValueKindsUptoCardSaid : Prop := Claim7.holds Tryz.pinned (.plain (OpenSpec.upto valueKindsSpec)) valueKindsUptoCard

/-- THE SECOND FORM's CARD OF 'counterpanelaw12.BuiltinWorst'. -/
def builtinWorstUptoCard : Claim7 := { stood := { row := builtinWorstUptoRow, standIns := [], harness := (true, "37833a39bebf6ddc79b4df4b922ce2d4a39b6f0540a30406b84ec1c0ea2fdf50"), looks := true }, kinds := [], alts := [], laidByText := true, laidKinds := [.data, .data, .data, .data, .sentinel, .sentinel, .pinned], laidTests := true, laidLooks := .later }
def BuiltinWorstUptoCardSaid : Prop := Claim7.holds Tryz.pinned (.plain (OpenSpec.upto builtinWorstSpec)) builtinWorstUptoCard

/-- THE SECOND FORM's CARD OF 'counterpanelaw12.BuiltinIf'. -/
def builtinIfUptoCard : Claim7 := { stood := { row := builtinIfUptoRow, standIns := [], harness := (true, "37833a39bebf6ddc79b4df4b922ce2d4a39b6f0540a30406b84ec1c0ea2fdf50"), looks := true }, kinds := [], alts := [], laidByText := true, laidKinds := [.data, .data, .data, .data, .sentinel, .sentinel, .pinned], laidTests := true, laidLooks := .later }
def BuiltinIfUptoCardSaid : Prop := Claim7.holds Tryz.pinned (.plain (OpenSpec.upto builtinIfSpec)) builtinIfUptoCard

/-- THE SECOND FORM's CARD OF 'counterpanelaw12.BuiltinCompare'. -/
def builtinCompareUptoCard : Claim7 := { stood := { row := builtinCompareUptoRow, standIns := [], harness := (true, "37833a39bebf6ddc79b4df4b922ce2d4a39b6f0540a30406b84ec1c0ea2fdf50"), looks := true }, kinds := [], alts := [], laidByText := true, laidKinds := [.data, .data, .data, .data, .sentinel, .sentinel, .pinned], laidTests := true, laidLooks := .later }
def BuiltinCompareUptoCardSaid : Prop := Claim7.holds Tryz.pinned (.plain (OpenSpec.upto builtinCompareSpec)) builtinCompareUptoCard

/-- THE SECOND FORM's CARD OF 'counterpanelaw12.BuiltinErrors'. -/
def builtinErrorsUptoCard : Claim7 := { stood := { row := builtinErrorsUptoRow, standIns := [], harness := (true, "37833a39bebf6ddc79b4df4b922ce2d4a39b6f0540a30406b84ec1c0ea2fdf50"), looks := true }, kinds := [], alts := [], laidByText := true, laidKinds := [.data, .data, .data, .data, .sentinel, .sentinel, .pinned], laidTests := true, laidLooks := .later }
def BuiltinErrorsUptoCardSaid : Prop := Claim7.holds Tryz.pinned (.plain (OpenSpec.upto builtinErrorsSpec)) builtinErrorsUptoCard
end Rows
end Go.Proofs.YtfnbflhoaemmeaaGreatDoor
