/-
  No cell of these rows narrows 'for every input' (looked for: loops, veiled, ifaces, maps, wideKeys, modest, calm, conditions, laid).
  DERIVED. THE GIVEN ROWS OF THIS SEAT. 6 by the template 'for every input the law returns true; each argument reads behind the call as it read before'; 0 by the template 'total and deterministic' (their statements: YtopdjbmmcfjpcaaTotals.lean).
  GIVEN WITH THE SEED: the statements are not yours to turn. If you find one false, say at which input.
  Laid BY PROGRAM, IN A SANDBOX (cutbox-rows.mjs): the forced cells as the released guide's own fill.sh prints them over the translation aeee75331f8377eb… (all of the seat's roots in one cut). By AI agents, Wed Nov 11 2026. No macro, syntax, notation, axiom, sorry.
-/
import Derived.Test.YtopdjbmmcfjpcaaChecked
import GoSem.Claim
import GoSem.ClaimJoined
import GoSem.ClaimMapViews
import Derived.JoinedTies
import Derived.KernelRfl
namespace Go.Proofs.Ytopdjbmmcfjpcaa
/- THE CELL 'sum', in the pinned program and in every row, IS THE sha256 OF THE DUMP (.gsa) THAT YtopdjbmmcfjpcaaProg.lean LOADS. Nothing in Lean hashes anything: it is a label: what it is worth is what the hold of that sum in a sandbox is worth. -/
noncomputable def Try.pinned : Pinned := { name := "ytopdjbmmcfjpcaa", sum := "aeee75331f8377eb0c31670c7b0a41526c601febb0bceed5d02a90481e57022d", checked := Try.checked }
namespace Rows
def none {H : Type} : Left H := { results := [], args := [] }

/-- 'counterpanelaw3.LineApart': WHATEVER THE INPUT: true; the input reads as it did. -/
def lineApartSpec : ChangeSpec := { name := "lineApart", fn := fun _ => fun
  | [d1, d2, d3] => { results := [.lit (.bool true)], args := [d1, d2, d3] }
  | _ => none }
def lineApartRow : OpenClaim := { program := "ytopdjbmmcfjpcaa", sum := "aeee75331f8377eb0c31670c7b0a41526c601febb0bceed5d02a90481e57022d", func := "counterpane/counterpanelaw3.LineApart", spec := "lineApart", apart := false }
def LineApartSaid : Prop := lineApartRow.holds Try.pinned (OpenSpec.ofChange lineApartSpec)

/-- ITS FALSE NEIGHBOUR: 'it returns false'. Refute it at one input. -/
def lineApartWrong : ChangeSpec := { name := "lineApart", fn := fun _ => fun
  | [d1, d2, d3] => { results := [.lit (.bool false)], args := [d1, d2, d3] }
  | _ => none }
def LineApartWrongFalsely : Prop := lineApartRow.holds Try.pinned (OpenSpec.ofChange lineApartWrong)

/-- 'counterpanelaw3.LineTransform': WHATEVER THE INPUT: true; the input reads as it did. -/
def lineTransformSpec : ChangeSpec := { name := "lineTransform", fn := fun _ => fun
  | [d1, d2, d3] => { results := [.lit (.bool true)], args := [d1, d2, d3] }
  | _ => none }
def lineTransformRow : OpenClaim := { program := "ytopdjbmmcfjpcaa", sum := "aeee75331f8377eb0c31670c7b0a41526c601febb0bceed5d02a90481e57022d", func := "counterpane/counterpanelaw3.LineTransform", spec := "lineTransform", apart := false }
def LineTransformSaid : Prop := lineTransformRow.holds Try.pinned (OpenSpec.ofChange lineTransformSpec)

/-- ITS FALSE NEIGHBOUR: 'it returns false'. Refute it at one input. -/
def lineTransformWrong : ChangeSpec := { name := "lineTransform", fn := fun _ => fun
  | [d1, d2, d3] => { results := [.lit (.bool false)], args := [d1, d2, d3] }
  | _ => none }
def LineTransformWrongFalsely : Prop := lineTransformRow.holds Try.pinned (OpenSpec.ofChange lineTransformWrong)

/-- 'counterpanelaw3.LineSides': WHATEVER THE INPUT: true; the input reads as it did. -/
def lineSidesSpec : ChangeSpec := { name := "lineSides", fn := fun _ => fun
  | [d1, d2, d3] => { results := [.lit (.bool true)], args := [d1, d2, d3] }
  | _ => none }
def lineSidesRow : OpenClaim := { program := "ytopdjbmmcfjpcaa", sum := "aeee75331f8377eb0c31670c7b0a41526c601febb0bceed5d02a90481e57022d", func := "counterpane/counterpanelaw3.LineSides", spec := "lineSides", apart := false }
def LineSidesSaid : Prop := lineSidesRow.holds Try.pinned (OpenSpec.ofChange lineSidesSpec)

/-- ITS FALSE NEIGHBOUR: 'it returns false'. Refute it at one input. -/
def lineSidesWrong : ChangeSpec := { name := "lineSides", fn := fun _ => fun
  | [d1, d2, d3] => { results := [.lit (.bool false)], args := [d1, d2, d3] }
  | _ => none }
def LineSidesWrongFalsely : Prop := lineSidesRow.holds Try.pinned (OpenSpec.ofChange lineSidesWrong)

/-- 'counterpanelaw3.LineAll': WHATEVER THE INPUT: true; the input reads as it did. -/
def lineAllSpec : ChangeSpec := { name := "lineAll", fn := fun _ => fun
  | [] => { results := [.lit (.bool true)], args := [] }
  | _ => none }
def lineAllRow : OpenClaim := { program := "ytopdjbmmcfjpcaa", sum := "aeee75331f8377eb0c31670c7b0a41526c601febb0bceed5d02a90481e57022d", func := "counterpane/counterpanelaw3.LineAll", spec := "lineAll", apart := false }
def LineAllSaid : Prop := lineAllRow.holds Try.pinned (OpenSpec.ofChange lineAllSpec)

/-- ITS FALSE NEIGHBOUR: 'it returns false'. Refute it at one input. -/
def lineAllWrong : ChangeSpec := { name := "lineAll", fn := fun _ => fun
  | [] => { results := [.lit (.bool false)], args := [] }
  | _ => none }
def LineAllWrongFalsely : Prop := lineAllRow.holds Try.pinned (OpenSpec.ofChange lineAllWrong)

/-- 'counterpanelaw3.LineLists': WHATEVER THE INPUT: true; the input reads as it did. -/
def lineListsSpec : ChangeSpec := { name := "lineLists", fn := fun _ => fun
  | [d1, d2] => { results := [.lit (.bool true)], args := [d1, d2] }
  | _ => none }
def lineListsRow : OpenClaim := { program := "ytopdjbmmcfjpcaa", sum := "aeee75331f8377eb0c31670c7b0a41526c601febb0bceed5d02a90481e57022d", func := "counterpane/counterpanelaw3.LineLists", spec := "lineLists", apart := false }
def LineListsSaid : Prop := lineListsRow.holds Try.pinned (OpenSpec.ofChange lineListsSpec)

/-- ITS FALSE NEIGHBOUR: 'it returns false'. Refute it at one input. -/
def lineListsWrong : ChangeSpec := { name := "lineLists", fn := fun _ => fun
  | [d1, d2] => { results := [.lit (.bool false)], args := [d1, d2] }
  | _ => none }
def LineListsWrongFalsely : Prop := lineListsRow.holds Try.pinned (OpenSpec.ofChange lineListsWrong)

/-- 'counterpanelaw3.LineBack': WHATEVER THE INPUT: true; the input reads as it did. -/
def lineBackSpec : ChangeSpec := { name := "lineBack", fn := fun _ => fun
  | [d1, d2, d3] => { results := [.lit (.bool true)], args := [d1, d2, d3] }
  | _ => none }
def lineBackRow : OpenClaim := { program := "ytopdjbmmcfjpcaa", sum := "aeee75331f8377eb0c31670c7b0a41526c601febb0bceed5d02a90481e57022d", func := "counterpane/counterpanelaw3.LineBack", spec := "lineBack", apart := false }
def LineBackSaid : Prop := lineBackRow.holds Try.pinned (OpenSpec.ofChange lineBackSpec)

/-- ITS FALSE NEIGHBOUR: 'it returns false'. Refute it at one input. -/
def lineBackWrong : ChangeSpec := { name := "lineBack", fn := fun _ => fun
  | [d1, d2, d3] => { results := [.lit (.bool false)], args := [d1, d2, d3] }
  | _ => none }
def LineBackWrongFalsely : Prop := lineBackRow.holds Try.pinned (OpenSpec.ofChange lineBackWrong)

/- THE SECOND FORM. 'bulk': how many values and letters a reading holds, each counted each time it is reached (what is shared counts as often as it is met; a slice's spare places count too). A statement '..UptoSaid' is the law's where the arguments, and the package variables that the reading takes, are together of bulk at most 1048576: NARROWER than '..Said'. Prove '..Said' where nothing that the law and all that it calls make is longer than what came in: it says more and counts as full. Else prove '..UptoSaid'. A law counts once. -/
mutual
def uptoBulk {H : Type} : DataW H → Nat
  | .lit (.string bytes) => bytes.length + 1
  | .lit _ => 1
  | .nil => 1
  | .ptr d => uptoBulk d + 1
  | .slice elems spare => uptoBulkAll elems + uptoBulkAll spare + 1
  | .agg parts => uptoBulkAll parts + 1
  | .iface _ d => uptoBulk d + 1
  | .map entries => uptoBulkEntries entries + 1
  | .held _ => 1
def uptoBulkAll {H : Type} : List (DataW H) → Nat
  | [] => 0
  | d :: r => uptoBulk d + uptoBulkAll r
def uptoBulkEntries {H : Type} : List (Lit × DataW H) → Nat
  | [] => 0
  | x :: r => uptoBulkEntry x + uptoBulkEntries r
def uptoBulkEntry {H : Type} : Lit × DataW H → Nat
  | (.string bytes, d) => bytes.length + uptoBulk d + 1
  | (_, d) => uptoBulk d + 1
 end
def uptoSmall : (H : Type) → List (DataW H) → Bool := fun _ ds => decide (uptoBulkAll ds ≤ 1048576)
def OpenSpec.upto (s : _root_.Go.ChangeSpec) : _root_.Go.OpenSpec := { _root_.Go.OpenSpec.ofChange s with cond := some uptoSmall }

/-- 'counterpanelaw3.LineApart', WHERE WHAT IT READS IS OF BULK AT MOST 1048576: true; the input reads as it did. -/
def lineApartUptoRow : OpenClaim := { program := "ytopdjbmmcfjpcaa", sum := "aeee75331f8377eb0c31670c7b0a41526c601febb0bceed5d02a90481e57022d", func := "counterpane/counterpanelaw3.LineApart", spec := "lineApart", apart := false, narrowed := true }
def LineApartUptoSaid : Prop := lineApartUptoRow.holds Try.pinned (OpenSpec.upto lineApartSpec)

/-- 'counterpanelaw3.LineTransform', WHERE WHAT IT READS IS OF BULK AT MOST 1048576: true; the input reads as it did. -/
def lineTransformUptoRow : OpenClaim := { program := "ytopdjbmmcfjpcaa", sum := "aeee75331f8377eb0c31670c7b0a41526c601febb0bceed5d02a90481e57022d", func := "counterpane/counterpanelaw3.LineTransform", spec := "lineTransform", apart := false, narrowed := true }
def LineTransformUptoSaid : Prop := lineTransformUptoRow.holds Try.pinned (OpenSpec.upto lineTransformSpec)

/-- 'counterpanelaw3.LineSides', WHERE WHAT IT READS IS OF BULK AT MOST 1048576: true; the input reads as it did. -/
def lineSidesUptoRow : OpenClaim := { program := "ytopdjbmmcfjpcaa", sum := "aeee75331f8377eb0c31670c7b0a41526c601febb0bceed5d02a90481e57022d", func := "counterpane/counterpanelaw3.LineSides", spec := "lineSides", apart := false, narrowed := true }
def LineSidesUptoSaid : Prop := lineSidesUptoRow.holds Try.pinned (OpenSpec.upto lineSidesSpec)

/-- 'counterpanelaw3.LineAll', WHERE WHAT IT READS IS OF BULK AT MOST 1048576: true; the input reads as it did. -/
def lineAllUptoRow : OpenClaim := { program := "ytopdjbmmcfjpcaa", sum := "aeee75331f8377eb0c31670c7b0a41526c601febb0bceed5d02a90481e57022d", func := "counterpane/counterpanelaw3.LineAll", spec := "lineAll", apart := false, narrowed := true }
def LineAllUptoSaid : Prop := lineAllUptoRow.holds Try.pinned (OpenSpec.upto lineAllSpec)

/-- 'counterpanelaw3.LineLists', WHERE WHAT IT READS IS OF BULK AT MOST 1048576: true; the input reads as it did. -/
def lineListsUptoRow : OpenClaim := { program := "ytopdjbmmcfjpcaa", sum := "aeee75331f8377eb0c31670c7b0a41526c601febb0bceed5d02a90481e57022d", func := "counterpane/counterpanelaw3.LineLists", spec := "lineLists", apart := false, narrowed := true }
def LineListsUptoSaid : Prop := lineListsUptoRow.holds Try.pinned (OpenSpec.upto lineListsSpec)

/-- 'counterpanelaw3.LineBack', WHERE WHAT IT READS IS OF BULK AT MOST 1048576: true; the input reads as it did. -/
def lineBackUptoRow : OpenClaim := { program := "ytopdjbmmcfjpcaa", sum := "aeee75331f8377eb0c31670c7b0a41526c601febb0bceed5d02a90481e57022d", func := "counterpane/counterpanelaw3.LineBack", spec := "lineBack", apart := false, narrowed := true }
def LineBackUptoSaid : Prop := lineBackUptoRow.holds Try.pinned (OpenSpec.upto lineBackSpec)

end Rows
end Go.Proofs.Ytopdjbmmcfjpcaa
