/-
  DERIVED. GIVEN WITH THE SEED: THE CARDS: each row of YtkcncfikejepdaaDoorRows.lean that lists a variable, with what it lists TIED to the program's text (the seventh form; the later family's looks); each row that meets fmt, with fmt's text TOLD by the authors' own Lean function (tested against real Go, not proved from fmt's source: count such statements apart). THE CARD IS WHAT COUNTS. Prove the row's statement (the work); the ties are given (YtkcncfikejepdaaDoorTie.lean); close each card by the builder's one call (the guide's Derived/Test/ToyasCard.lean, 'card_holds'). Laid BY PROGRAM, IN A SANDBOX (cutbox-door.mjs). By AI agents, Wed Nov 11 2026. No macro, syntax, notation, axiom, sorry.
-/
import Derived.Test.YtkcncfikejepdaaDoorRows
import GoSem.ClaimSeven
namespace Go.Proofs.YtkcncfikejepdaaDoor
namespace Rows

/-- THE TIED CARD OF 'counterpanelaw1.FixSum'. -/
def fixSumCard : Claim7 := { stood := { row := fixSumRow, standIns := [], harness := (true, "fcf1862a3b194b7c664833ffbd51abb52aac8d0835c55af7f6c07a0750f5dd27"), looks := true }, kinds := [], alts := [], laidByText := true, laidKinds := [.data, .data, .data, .data, .sentinel, .sentinel, .pinned], laidTests := true, laidLooks := .later }
def FixSumCardSaid : Prop := Claim7.holds Tryd.pinned (.plain (OpenSpec.ofChange fixSumSpec)) fixSumCard

/-- THE TIED CARD OF 'counterpanelaw1.FixCut'. -/
def fixCutCard : Claim7 := { stood := { row := fixCutRow, standIns := [], harness := (true, "fcf1862a3b194b7c664833ffbd51abb52aac8d0835c55af7f6c07a0750f5dd27"), looks := true }, kinds := [], alts := [], laidByText := true, laidKinds := [.data, .data, .data, .data, .sentinel, .sentinel, .pinned], laidTests := true, laidLooks := .later }
def FixCutCardSaid : Prop := Claim7.holds Tryd.pinned (.plain (OpenSpec.ofChange fixCutSpec)) fixCutCard

/-- THE TIED CARD OF 'counterpanelaw1.FixForms'. -/
def fixFormsCard : Claim7 := { stood := { row := fixFormsRow, standIns := [], harness := (true, "fcf1862a3b194b7c664833ffbd51abb52aac8d0835c55af7f6c07a0750f5dd27"), looks := true }, kinds := [], alts := [], laidByText := true, laidKinds := [.data, .data, .data, .data, .sentinel, .sentinel, .pinned], laidTests := true, laidLooks := .later }
def FixFormsCardSaid : Prop := Claim7.holds Tryd.pinned (.plain (OpenSpec.ofChange fixFormsSpec)) fixFormsCard

/-- THE TIED CARD OF 'counterpanelaw1.FixText'. -/
def fixTextCard : Claim7 := { stood := { row := fixTextRow, standIns := [], harness := (true, "fcf1862a3b194b7c664833ffbd51abb52aac8d0835c55af7f6c07a0750f5dd27"), looks := true }, kinds := [], alts := [], laidByText := true, laidKinds := [.data, .data, .data, .data, .sentinel, .sentinel, .pinned], laidTests := true, laidLooks := .later }
def FixTextCardSaid : Prop := Claim7.holds Tryd.pinned (.plain (OpenSpec.ofChange fixTextSpec)) fixTextCard

/-- THE TIED CARD OF 'counterpanelaw1.FixSums'. -/
def fixSumsCard : Claim7 := { stood := { row := fixSumsRow, standIns := [], harness := (true, "fcf1862a3b194b7c664833ffbd51abb52aac8d0835c55af7f6c07a0750f5dd27"), looks := true }, kinds := [], alts := [], laidByText := true, laidKinds := [.data, .data, .data, .data, .sentinel, .sentinel, .pinned], laidTests := true, laidLooks := .later }
def FixSumsCardSaid : Prop := Claim7.holds Tryd.pinned (.plain (OpenSpec.ofChange fixSumsSpec)) fixSumsCard

/-- THE TIED CARD OF 'counterpanelaw1.FixRing'. -/
def fixRingCard : Claim7 := { stood := { row := fixRingRow, standIns := [], harness := (true, "fcf1862a3b194b7c664833ffbd51abb52aac8d0835c55af7f6c07a0750f5dd27"), looks := true }, kinds := [], alts := [], laidByText := true, laidKinds := [.data, .data, .data, .data, .sentinel, .sentinel, .pinned], laidTests := true, laidLooks := .later }
def FixRingCardSaid : Prop := Claim7.holds Tryd.pinned (.plain (OpenSpec.ofChange fixRingSpec)) fixRingCard

/-- THE SECOND FORM's CARD OF 'counterpanelaw1.FixSum'. -/
def fixSumUptoCard : Claim7 := { stood := { row := fixSumUptoRow, standIns := [], harness := (true, "fcf1862a3b194b7c664833ffbd51abb52aac8d0835c55af7f6c07a0750f5dd27"), looks := true }, kinds := [], alts := [], laidByText := true, laidKinds := [.data, .data, .data, .data, .sentinel, .sentinel, .pinned], laidTests := true, laidLooks := .later }
def FixSumUptoCardSaid : Prop := Claim7.holds Tryd.pinned (.plain (OpenSpec.upto fixSumSpec)) fixSumUptoCard

/-- THE SECOND FORM's CARD OF 'counterpanelaw1.FixCut'. -/
def fixCutUptoCard : Claim7 := { stood := { row := fixCutUptoRow, standIns := [], harness := (true, "fcf1862a3b194b7c664833ffbd51abb52aac8d0835c55af7f6c07a0750f5dd27"), looks := true }, kinds := [], alts := [], laidByText := true, laidKinds := [.data, .data, .data, .data, .sentinel, .sentinel, .pinned], laidTests := true, laidLooks := .later }
def FixCutUptoCardSaid : Prop := Claim7.holds Tryd.pinned (.plain (OpenSpec.upto fixCutSpec)) fixCutUptoCard

/-- THE SECOND FORM's CARD OF 'counterpanelaw1.FixForms'. -/
def fixFormsUptoCard : Claim7 := { stood := { row := fixFormsUptoRow, standIns := [], harness := (true, "fcf1862a3b194b7c664833ffbd51abb52aac8d0835c55af7f6c07a0750f5dd27"), looks := true }, kinds := [], alts := [], laidByText := true, laidKinds := [.data, .data, .data, .data, .sentinel, .sentinel, .pinned], laidTests := true, laidLooks := .later }
def FixFormsUptoCardSaid : Prop := Claim7.holds Tryd.pinned (.plain (OpenSpec.upto fixFormsSpec)) fixFormsUptoCard

/-- THE SECOND FORM's CARD OF 'counterpanelaw1.FixText'. -/
def fixTextUptoCard : Claim7 := { stood := { row := fixTextUptoRow, standIns := [], harness := (true, "fcf1862a3b194b7c664833ffbd51abb52aac8d0835c55af7f6c07a0750f5dd27"), looks := true }, kinds := [], alts := [], laidByText := true, laidKinds := [.data, .data, .data, .data, .sentinel, .sentinel, .pinned], laidTests := true, laidLooks := .later }
def FixTextUptoCardSaid : Prop := Claim7.holds Tryd.pinned (.plain (OpenSpec.upto fixTextSpec)) fixTextUptoCard

/-- THE SECOND FORM's CARD OF 'counterpanelaw1.FixSums'. -/
def fixSumsUptoCard : Claim7 := { stood := { row := fixSumsUptoRow, standIns := [], harness := (true, "fcf1862a3b194b7c664833ffbd51abb52aac8d0835c55af7f6c07a0750f5dd27"), looks := true }, kinds := [], alts := [], laidByText := true, laidKinds := [.data, .data, .data, .data, .sentinel, .sentinel, .pinned], laidTests := true, laidLooks := .later }
def FixSumsUptoCardSaid : Prop := Claim7.holds Tryd.pinned (.plain (OpenSpec.upto fixSumsSpec)) fixSumsUptoCard

/-- THE SECOND FORM's CARD OF 'counterpanelaw1.FixRing'. -/
def fixRingUptoCard : Claim7 := { stood := { row := fixRingUptoRow, standIns := [], harness := (true, "fcf1862a3b194b7c664833ffbd51abb52aac8d0835c55af7f6c07a0750f5dd27"), looks := true }, kinds := [], alts := [], laidByText := true, laidKinds := [.data, .data, .data, .data, .sentinel, .sentinel, .pinned], laidTests := true, laidLooks := .later }
def FixRingUptoCardSaid : Prop := Claim7.holds Tryd.pinned (.plain (OpenSpec.upto fixRingSpec)) fixRingUptoCard
end Rows
end Go.Proofs.YtkcncfikejepdaaDoor
