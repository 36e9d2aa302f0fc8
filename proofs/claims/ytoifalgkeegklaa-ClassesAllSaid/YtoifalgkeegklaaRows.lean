/-
  No cell of these rows narrows 'for every input' (looked for: loops, veiled, ifaces, maps, wideKeys, modest, calm, conditions, laid).
  DERIVED. THE GIVEN ROWS OF THIS SEAT. 15 by the template 'for every input the law returns true; each argument reads behind the call as it read before'; 0 by the template 'total and deterministic' (their statements: YtoifalgkeegklaaTotals.lean).
  GIVEN WITH THE SEED: the statements are not yours to turn. If you find one false, say at which input.
  Laid BY PROGRAM, IN A SANDBOX (cutbox-rows.mjs): the forced cells as the released guide's own fill.sh prints them over the translation 78403be7a336f742… (all of the seat's roots in one cut). By AI agents, Wed Nov 11 2026. No macro, syntax, notation, axiom, sorry.
-/
import Derived.Test.YtoifalgkeegklaaChecked
import GoSem.Claim
import GoSem.ClaimJoined
import GoSem.ClaimMapViews
import Derived.JoinedTies
import Derived.KernelRfl
namespace Go.Proofs.Ytoifalgkeegklaa
/- THE CELL 'sum', in the pinned program and in every row, IS THE sha256 OF THE DUMP (.gsa) THAT YtoifalgkeegklaaProg.lean LOADS. Nothing in Lean hashes anything: it is a label: what it is worth is what the hold of that sum in a sandbox is worth. -/
noncomputable def Try.pinned : Pinned := { name := "ytoifalgkeegklaa", sum := "78403be7a336f74273768fda998d627106dd19fd344e37fc3fbd49e51dbac2e5", checked := Try.checked }
namespace Rows
def none {H : Type} : Left H := { results := [], args := [] }

/-- 'ballastlaw21.FitLeaves': WHATEVER THE INPUT: true; the input reads as it did. -/
def fitLeavesSpec : ChangeSpec := { name := "fitLeaves", fn := fun _ => fun
  | [d1, d2] => { results := [.lit (.bool true)], args := [d1, d2] }
  | _ => none }
def fitLeavesRow : OpenClaim := { program := "ytoifalgkeegklaa", sum := "78403be7a336f74273768fda998d627106dd19fd344e37fc3fbd49e51dbac2e5", func := "ballast/ballastlaw21.FitLeaves", spec := "fitLeaves", apart := false }
def FitLeavesSaid : Prop := fitLeavesRow.holds Try.pinned (OpenSpec.ofChange fitLeavesSpec)

/-- ITS FALSE NEIGHBOUR: 'it returns false'. Refute it at one input. -/
def fitLeavesWrong : ChangeSpec := { name := "fitLeaves", fn := fun _ => fun
  | [d1, d2] => { results := [.lit (.bool false)], args := [d1, d2] }
  | _ => none }
def FitLeavesWrongFalsely : Prop := fitLeavesRow.holds Try.pinned (OpenSpec.ofChange fitLeavesWrong)

/-- 'ballastlaw21.FitParts': WHATEVER THE INPUT: true; the input reads as it did. -/
def fitPartsSpec : ChangeSpec := { name := "fitParts", fn := fun _ => fun
  | [d1, d2] => { results := [.lit (.bool true)], args := [d1, d2] }
  | _ => none }
def fitPartsRow : OpenClaim := { program := "ytoifalgkeegklaa", sum := "78403be7a336f74273768fda998d627106dd19fd344e37fc3fbd49e51dbac2e5", func := "ballast/ballastlaw21.FitParts", spec := "fitParts", unfollowed := true, recurses := true, apart := false }
def FitPartsSaid : Prop := fitPartsRow.holds Try.pinned (OpenSpec.ofChange fitPartsSpec)

/-- ITS FALSE NEIGHBOUR: 'it returns false'. Refute it at one input. -/
def fitPartsWrong : ChangeSpec := { name := "fitParts", fn := fun _ => fun
  | [d1, d2] => { results := [.lit (.bool false)], args := [d1, d2] }
  | _ => none }
def FitPartsWrongFalsely : Prop := fitPartsRow.holds Try.pinned (OpenSpec.ofChange fitPartsWrong)

/-- 'ballastlaw21.FitOne': WHATEVER THE INPUT: true; the input reads as it did. -/
def fitOneSpec : ChangeSpec := { name := "fitOne", fn := fun _ => fun
  | [d1, d2] => { results := [.lit (.bool true)], args := [d1, d2] }
  | _ => none }
def fitOneRow : OpenClaim := { program := "ytoifalgkeegklaa", sum := "78403be7a336f74273768fda998d627106dd19fd344e37fc3fbd49e51dbac2e5", func := "ballast/ballastlaw21.FitOne", spec := "fitOne", unfollowed := true, recurses := true, apart := false }
def FitOneSaid : Prop := fitOneRow.holds Try.pinned (OpenSpec.ofChange fitOneSpec)

/-- ITS FALSE NEIGHBOUR: 'it returns false'. Refute it at one input. -/
def fitOneWrong : ChangeSpec := { name := "fitOne", fn := fun _ => fun
  | [d1, d2] => { results := [.lit (.bool false)], args := [d1, d2] }
  | _ => none }
def FitOneWrongFalsely : Prop := fitOneRow.holds Try.pinned (OpenSpec.ofChange fitOneWrong)

/-- 'ballastlaw16.ExtentsBecomes': WHATEVER THE INPUT: true; the input reads as it did. -/
def extentsBecomesSpec : ChangeSpec := { name := "extentsBecomes", fn := fun _ => fun
  | [d1, d2] => { results := [.lit (.bool true)], args := [d1, d2] }
  | _ => none }
def extentsBecomesRow : OpenClaim := { program := "ytoifalgkeegklaa", sum := "78403be7a336f74273768fda998d627106dd19fd344e37fc3fbd49e51dbac2e5", func := "ballast/ballastlaw16.ExtentsBecomes", spec := "extentsBecomes", apart := false }
def ExtentsBecomesSaid : Prop := extentsBecomesRow.holds Try.pinned (OpenSpec.ofChange extentsBecomesSpec)

/-- ITS FALSE NEIGHBOUR: 'it returns false'. Refute it at one input. -/
def extentsBecomesWrong : ChangeSpec := { name := "extentsBecomes", fn := fun _ => fun
  | [d1, d2] => { results := [.lit (.bool false)], args := [d1, d2] }
  | _ => none }
def ExtentsBecomesWrongFalsely : Prop := extentsBecomesRow.holds Try.pinned (OpenSpec.ofChange extentsBecomesWrong)

/-- 'ballastlaw16.ExtentsFinds': WHATEVER THE INPUT: true; the input reads as it did. -/
def extentsFindsSpec : ChangeSpec := { name := "extentsFinds", fn := fun _ => fun
  | [d1, d2] => { results := [.lit (.bool true)], args := [d1, d2] }
  | _ => none }
def extentsFindsRow : OpenClaim := { program := "ytoifalgkeegklaa", sum := "78403be7a336f74273768fda998d627106dd19fd344e37fc3fbd49e51dbac2e5", func := "ballast/ballastlaw16.ExtentsFinds", spec := "extentsFinds", apart := false }
def ExtentsFindsSaid : Prop := extentsFindsRow.holds Try.pinned (OpenSpec.ofChange extentsFindsSpec)

/-- ITS FALSE NEIGHBOUR: 'it returns false'. Refute it at one input. -/
def extentsFindsWrong : ChangeSpec := { name := "extentsFinds", fn := fun _ => fun
  | [d1, d2] => { results := [.lit (.bool false)], args := [d1, d2] }
  | _ => none }
def ExtentsFindsWrongFalsely : Prop := extentsFindsRow.holds Try.pinned (OpenSpec.ofChange extentsFindsWrong)

/-- 'ballastlaw16.ExtentsNames': WHATEVER THE INPUT: true; the input reads as it did. -/
def extentsNamesSpec : ChangeSpec := { name := "extentsNames", fn := fun _ => fun
  | [] => { results := [.lit (.bool true)], args := [] }
  | _ => none }
def extentsNamesRow : OpenClaim := { program := "ytoifalgkeegklaa", sum := "78403be7a336f74273768fda998d627106dd19fd344e37fc3fbd49e51dbac2e5", func := "ballast/ballastlaw16.ExtentsNames", spec := "extentsNames", apart := false }
def ExtentsNamesSaid : Prop := extentsNamesRow.holds Try.pinned (OpenSpec.ofChange extentsNamesSpec)

/-- ITS FALSE NEIGHBOUR: 'it returns false'. Refute it at one input. -/
def extentsNamesWrong : ChangeSpec := { name := "extentsNames", fn := fun _ => fun
  | [] => { results := [.lit (.bool false)], args := [] }
  | _ => none }
def ExtentsNamesWrongFalsely : Prop := extentsNamesRow.holds Try.pinned (OpenSpec.ofChange extentsNamesWrong)

/-- 'ballastlaw16.ExtentsApart': WHATEVER THE INPUT: true; the input reads as it did. -/
def extentsApartSpec : ChangeSpec := { name := "extentsApart", fn := fun _ => fun
  | [d] => { results := [.lit (.bool true)], args := [d] }
  | _ => none }
def extentsApartRow : OpenClaim := { program := "ytoifalgkeegklaa", sum := "78403be7a336f74273768fda998d627106dd19fd344e37fc3fbd49e51dbac2e5", func := "ballast/ballastlaw16.ExtentsApart", spec := "extentsApart", apart := false }
def ExtentsApartSaid : Prop := extentsApartRow.holds Try.pinned (OpenSpec.ofChange extentsApartSpec)

/-- ITS FALSE NEIGHBOUR: 'it returns false'. Refute it at one input. -/
def extentsApartWrong : ChangeSpec := { name := "extentsApart", fn := fun _ => fun
  | [d] => { results := [.lit (.bool false)], args := [d] }
  | _ => none }
def ExtentsApartWrongFalsely : Prop := extentsApartRow.holds Try.pinned (OpenSpec.ofChange extentsApartWrong)

/-- 'ballastlaw16.ExtentsMarks': WHATEVER THE INPUT: true; the input reads as it did. -/
def extentsMarksSpec : ChangeSpec := { name := "extentsMarks", fn := fun _ => fun
  | [d1, d2, d3, d4] => { results := [.lit (.bool true)], args := [d1, d2, d3, d4] }
  | _ => none }
def extentsMarksRow : OpenClaim := { program := "ytoifalgkeegklaa", sum := "78403be7a336f74273768fda998d627106dd19fd344e37fc3fbd49e51dbac2e5", func := "ballast/ballastlaw16.ExtentsMarks", spec := "extentsMarks", apart := false }
def ExtentsMarksSaid : Prop := extentsMarksRow.holds Try.pinned (OpenSpec.ofChange extentsMarksSpec)

/-- ITS FALSE NEIGHBOUR: 'it returns false'. Refute it at one input. -/
def extentsMarksWrong : ChangeSpec := { name := "extentsMarks", fn := fun _ => fun
  | [d1, d2, d3, d4] => { results := [.lit (.bool false)], args := [d1, d2, d3, d4] }
  | _ => none }
def ExtentsMarksWrongFalsely : Prop := extentsMarksRow.holds Try.pinned (OpenSpec.ofChange extentsMarksWrong)

/-- 'ballastlaw16.ExtentsGrow': WHATEVER THE INPUT: true; the input reads as it did. -/
def extentsGrowSpec : ChangeSpec := { name := "extentsGrow", fn := fun _ => fun
  | [d1, d2] => { results := [.lit (.bool true)], args := [d1, d2] }
  | _ => none }
def extentsGrowRow : OpenClaim := { program := "ytoifalgkeegklaa", sum := "78403be7a336f74273768fda998d627106dd19fd344e37fc3fbd49e51dbac2e5", func := "ballast/ballastlaw16.ExtentsGrow", spec := "extentsGrow", apart := false }
def ExtentsGrowSaid : Prop := extentsGrowRow.holds Try.pinned (OpenSpec.ofChange extentsGrowSpec)

/-- ITS FALSE NEIGHBOUR: 'it returns false'. Refute it at one input. -/
def extentsGrowWrong : ChangeSpec := { name := "extentsGrow", fn := fun _ => fun
  | [d1, d2] => { results := [.lit (.bool false)], args := [d1, d2] }
  | _ => none }
def ExtentsGrowWrongFalsely : Prop := extentsGrowRow.holds Try.pinned (OpenSpec.ofChange extentsGrowWrong)

/-- 'ballastlaw17.ClassesLists': WHATEVER THE INPUT: true; the input reads as it did. -/
def classesListsSpec : ChangeSpec := { name := "classesLists", fn := fun _ => fun
  | [d] => { results := [.lit (.bool true)], args := [d] }
  | _ => none }
def classesListsRow : OpenClaim := { program := "ytoifalgkeegklaa", sum := "78403be7a336f74273768fda998d627106dd19fd344e37fc3fbd49e51dbac2e5", func := "ballast/ballastlaw17.ClassesLists", spec := "classesLists", apart := false }
def ClassesListsSaid : Prop := classesListsRow.holds Try.pinned (OpenSpec.ofChange classesListsSpec)

/-- ITS FALSE NEIGHBOUR: 'it returns false'. Refute it at one input. -/
def classesListsWrong : ChangeSpec := { name := "classesLists", fn := fun _ => fun
  | [d] => { results := [.lit (.bool false)], args := [d] }
  | _ => none }
def ClassesListsWrongFalsely : Prop := classesListsRow.holds Try.pinned (OpenSpec.ofChange classesListsWrong)

/-- 'ballastlaw17.ClassesNames': WHATEVER THE INPUT: true; the input reads as it did. -/
def classesNamesSpec : ChangeSpec := { name := "classesNames", fn := fun _ => fun
  | [] => { results := [.lit (.bool true)], args := [] }
  | _ => none }
def classesNamesRow : OpenClaim := { program := "ytoifalgkeegklaa", sum := "78403be7a336f74273768fda998d627106dd19fd344e37fc3fbd49e51dbac2e5", func := "ballast/ballastlaw17.ClassesNames", spec := "classesNames", apart := false }
def ClassesNamesSaid : Prop := classesNamesRow.holds Try.pinned (OpenSpec.ofChange classesNamesSpec)

/-- ITS FALSE NEIGHBOUR: 'it returns false'. Refute it at one input. -/
def classesNamesWrong : ChangeSpec := { name := "classesNames", fn := fun _ => fun
  | [] => { results := [.lit (.bool false)], args := [] }
  | _ => none }
def ClassesNamesWrongFalsely : Prop := classesNamesRow.holds Try.pinned (OpenSpec.ofChange classesNamesWrong)

/-- 'ballastlaw21.FitFinds': WHATEVER THE INPUT: true; the input reads as it did. -/
def fitFindsSpec : ChangeSpec := { name := "fitFinds", fn := fun _ => fun
  | [d1, d2] => { results := [.lit (.bool true)], args := [d1, d2] }
  | _ => none }
def fitFindsRow : OpenClaim := { program := "ytoifalgkeegklaa", sum := "78403be7a336f74273768fda998d627106dd19fd344e37fc3fbd49e51dbac2e5", func := "ballast/ballastlaw21.FitFinds", spec := "fitFinds", apart := false }
def FitFindsSaid : Prop := fitFindsRow.holds Try.pinned (OpenSpec.ofChange fitFindsSpec)

/-- ITS FALSE NEIGHBOUR: 'it returns false'. Refute it at one input. -/
def fitFindsWrong : ChangeSpec := { name := "fitFinds", fn := fun _ => fun
  | [d1, d2] => { results := [.lit (.bool false)], args := [d1, d2] }
  | _ => none }
def FitFindsWrongFalsely : Prop := fitFindsRow.holds Try.pinned (OpenSpec.ofChange fitFindsWrong)

/-- 'ballastlaw17.ClassesAll': WHATEVER THE INPUT: true; the input reads as it did. -/
def classesAllSpec : ChangeSpec := { name := "classesAll", fn := fun _ => fun
  | [d] => { results := [.lit (.bool true)], args := [d] }
  | _ => none }
def classesAllRow : OpenClaim := { program := "ytoifalgkeegklaa", sum := "78403be7a336f74273768fda998d627106dd19fd344e37fc3fbd49e51dbac2e5", func := "ballast/ballastlaw17.ClassesAll", spec := "classesAll", apart := false }
def ClassesAllSaid : Prop := classesAllRow.holds Try.pinned (OpenSpec.ofChange classesAllSpec)

/-- ITS FALSE NEIGHBOUR: 'it returns false'. Refute it at one input. -/
def classesAllWrong : ChangeSpec := { name := "classesAll", fn := fun _ => fun
  | [d] => { results := [.lit (.bool false)], args := [d] }
  | _ => none }
def ClassesAllWrongFalsely : Prop := classesAllRow.holds Try.pinned (OpenSpec.ofChange classesAllWrong)

/-- 'ballastlaw21.FitNames': WHATEVER THE INPUT: true; the input reads as it did. -/
def fitNamesSpec : ChangeSpec := { name := "fitNames", fn := fun _ => fun
  | [] => { results := [.lit (.bool true)], args := [] }
  | _ => none }
def fitNamesRow : OpenClaim := { program := "ytoifalgkeegklaa", sum := "78403be7a336f74273768fda998d627106dd19fd344e37fc3fbd49e51dbac2e5", func := "ballast/ballastlaw21.FitNames", spec := "fitNames", unfollowed := true, recurses := true, apart := false }
def FitNamesSaid : Prop := fitNamesRow.holds Try.pinned (OpenSpec.ofChange fitNamesSpec)

/-- ITS FALSE NEIGHBOUR: 'it returns false'. Refute it at one input. -/
def fitNamesWrong : ChangeSpec := { name := "fitNames", fn := fun _ => fun
  | [] => { results := [.lit (.bool false)], args := [] }
  | _ => none }
def FitNamesWrongFalsely : Prop := fitNamesRow.holds Try.pinned (OpenSpec.ofChange fitNamesWrong)

/-- 'ballastlaw21.FitLeast': WHATEVER THE INPUT: true; the input reads as it did. -/
def fitLeastSpec : ChangeSpec := { name := "fitLeast", fn := fun _ => fun
  | [d1, d2, d3] => { results := [.lit (.bool true)], args := [d1, d2, d3] }
  | _ => none }
def fitLeastRow : OpenClaim := { program := "ytoifalgkeegklaa", sum := "78403be7a336f74273768fda998d627106dd19fd344e37fc3fbd49e51dbac2e5", func := "ballast/ballastlaw21.FitLeast", spec := "fitLeast", unfollowed := true, recurses := true, apart := false }
def FitLeastSaid : Prop := fitLeastRow.holds Try.pinned (OpenSpec.ofChange fitLeastSpec)

/-- ITS FALSE NEIGHBOUR: 'it returns false'. Refute it at one input. -/
def fitLeastWrong : ChangeSpec := { name := "fitLeast", fn := fun _ => fun
  | [d1, d2, d3] => { results := [.lit (.bool false)], args := [d1, d2, d3] }
  | _ => none }
def FitLeastWrongFalsely : Prop := fitLeastRow.holds Try.pinned (OpenSpec.ofChange fitLeastWrong)

/- THE SECOND FORM. 'bulk': how many values and letters a reading holds, each counted each time it is reached (what is shared counts as often as it is met; a slice's spare places count too). A statement '..UptoSaid' is the law's where the arguments, and the package variables that the reading takes, are together of bulk at most 1048576: NARROWER than '..Said'. Prove '..Said' where nothing that the law and all that it calls make is longer than what came in: it says more and counts as full. Else prove '..UptoSaid'. A law counts once. -/
mutual
def uptoBulk {H : Type} : DataW H → Nat
  | .lit (.string bytes) => bytes.length + 1
  | .lit _ => 1
  | .nil => 1
  | .ptr d => uptoBulk d + 1
  | .slice elems spare => uptoBulkAll elems + uptoBulkAll spare + 1
  | .agg parts => uptoBulkAll parts + 1
  | .iface _ d => uptoBulk d + 1
  | .map entries => uptoBulkEntries entries + 1
  | .held _ => 1
def uptoBulkAll {H : Type} : List (DataW H) → Nat
  | [] => 0
  | d :: r => uptoBulk d + uptoBulkAll r
def uptoBulkEntries {H : Type} : List (Lit × DataW H) → Nat
  | [] => 0
  | x :: r => uptoBulkEntry x + uptoBulkEntries r
def uptoBulkEntry {H : Type} : Lit × DataW H → Nat
  | (.string bytes, d) => bytes.length + uptoBulk d + 1
  | (_, d) => uptoBulk d + 1
 end
def uptoSmall : (H : Type) → List (DataW H) → Bool := fun _ ds => decide (uptoBulkAll ds ≤ 1048576)
def OpenSpec.upto (s : _root_.Go.ChangeSpec) : _root_.Go.OpenSpec := { _root_.Go.OpenSpec.ofChange s with cond := some uptoSmall }

/-- 'ballastlaw21.FitLeaves', WHERE WHAT IT READS IS OF BULK AT MOST 1048576: true; the input reads as it did. -/
def fitLeavesUptoRow : OpenClaim := { program := "ytoifalgkeegklaa", sum := "78403be7a336f74273768fda998d627106dd19fd344e37fc3fbd49e51dbac2e5", func := "ballast/ballastlaw21.FitLeaves", spec := "fitLeaves", apart := false, narrowed := true }
def FitLeavesUptoSaid : Prop := fitLeavesUptoRow.holds Try.pinned (OpenSpec.upto fitLeavesSpec)

/-- 'ballastlaw21.FitParts', WHERE WHAT IT READS IS OF BULK AT MOST 1048576: true; the input reads as it did. -/
def fitPartsUptoRow : OpenClaim := { program := "ytoifalgkeegklaa", sum := "78403be7a336f74273768fda998d627106dd19fd344e37fc3fbd49e51dbac2e5", func := "ballast/ballastlaw21.FitParts", spec := "fitParts", unfollowed := true, recurses := true, apart := false, narrowed := true }
def FitPartsUptoSaid : Prop := fitPartsUptoRow.holds Try.pinned (OpenSpec.upto fitPartsSpec)

/-- 'ballastlaw21.FitOne', WHERE WHAT IT READS IS OF BULK AT MOST 1048576: true; the input reads as it did. -/
def fitOneUptoRow : OpenClaim := { program := "ytoifalgkeegklaa", sum := "78403be7a336f74273768fda998d627106dd19fd344e37fc3fbd49e51dbac2e5", func := "ballast/ballastlaw21.FitOne", spec := "fitOne", unfollowed := true, recurses := true, apart := false, narrowed := true }
def FitOneUptoSaid : Prop := fitOneUptoRow.holds Try.pinned (OpenSpec.upto fitOneSpec)

/-- 'ballastlaw16.ExtentsBecomes', WHERE WHAT IT READS IS OF BULK AT MOST 1048576: true; the input reads as it did. -/
def extentsBecomesUptoRow : OpenClaim := { program := "ytoifalgkeegklaa", sum := "78403be7a336f74273768fda998d627106dd19fd344e37fc3fbd49e51dbac2e5", func := "ballast/ballastlaw16.ExtentsBecomes", spec := "extentsBecomes", apart := false, narrowed := true }
def ExtentsBecomesUptoSaid : Prop := extentsBecomesUptoRow.holds Try.pinned (OpenSpec.upto extentsBecomesSpec)

/-- 'ballastlaw16.ExtentsFinds', WHERE WHAT IT READS IS OF BULK AT MOST 1048576: true; the input reads as it did. -/
def extentsFindsUptoRow : OpenClaim := { program := "ytoifalgkeegklaa", sum := "78403be7a336f74273768fda998d627106dd19fd344e37fc3fbd49e51dbac2e5", func := "ballast/ballastlaw16.ExtentsFinds", spec := "extentsFinds", apart := false, narrowed := true }
def ExtentsFindsUptoSaid : Prop := extentsFindsUptoRow.holds Try.pinned (OpenSpec.upto extentsFindsSpec)

/-- 'ballastlaw16.ExtentsNames', WHERE WHAT IT READS IS OF BULK AT MOST 1048576: true; the input reads as it did. -/
def extentsNamesUptoRow : OpenClaim := { program := "ytoifalgkeegklaa", sum := "78403be7a336f74273768fda998d627106dd19fd344e37fc3fbd49e51dbac2e5", func := "ballast/ballastlaw16.ExtentsNames", spec := "extentsNames", apart := false, narrowed := true }
def ExtentsNamesUptoSaid : Prop := extentsNamesUptoRow.holds Try.pinned (OpenSpec.upto extentsNamesSpec)

/-- 'ballastlaw16.ExtentsApart', WHERE WHAT IT READS IS OF BULK AT MOST 1048576: true; the input reads as it did. -/
def extentsApartUptoRow : OpenClaim := { program := "ytoifalgkeegklaa", sum := "78403be7a336f74273768fda998d627106dd19fd344e37fc3fbd49e51dbac2e5", func := "ballast/ballastlaw16.ExtentsApart", spec := "extentsApart", apart := false, narrowed := true }
def ExtentsApartUptoSaid : Prop := extentsApartUptoRow.holds Try.pinned (OpenSpec.upto extentsApartSpec)

/-- 'ballastlaw16.ExtentsMarks', WHERE WHAT IT READS IS OF BULK AT MOST 1048576: true; the input reads as it did. -/
def extentsMarksUptoRow : OpenClaim := { program := "ytoifalgkeegklaa", sum := "78403be7a336f74273768fda998d627106dd19fd344e37fc3fbd49e51dbac2e5", func := "ballast/ballastlaw16.ExtentsMarks", spec := "extentsMarks", apart := false, narrowed := true }
def ExtentsMarksUptoSaid : Prop := extentsMarksUptoRow.holds Try.pinned (OpenSpec.upto extentsMarksSpec)

/-- 'ballastlaw16.ExtentsGrow', WHERE WHAT IT READS IS OF BULK AT MOST 1048576: true; the input reads as it did. -/
def extentsGrowUptoRow : OpenClaim := { program := "ytoifalgkeegklaa", sum := "78403be7a336f74273768fda998d627106dd19fd344e37fc3fbd49e51dbac2e5", func := "ballast/ballastlaw16.ExtentsGrow", spec := "extentsGrow", apart := false, narrowed := true }
def ExtentsGrowUptoSaid : Prop := extentsGrowUptoRow.holds Try.pinned (OpenSpec.upto extentsGrowSpec)

/-- 'ballastlaw17.ClassesLists', WHERE WHAT IT READS IS OF BULK AT MOST 1048576: true; the input reads as it did. -/
def classesListsUptoRow : OpenClaim := { program := "ytoifalgkeegklaa", sum := "78403be7a336f74273768fda998d627106dd19fd344e37fc3fbd49e51dbac2e5", func := "ballast/ballastlaw17.ClassesLists", spec := "classesLists", apart := false, narrowed := true }
def ClassesListsUptoSaid : Prop := classesListsUptoRow.holds Try.pinned (OpenSpec.upto classesListsSpec)

/-- 'ballastlaw17.ClassesNames', WHERE WHAT IT READS IS OF BULK AT MOST 1048576: true; the input reads as it did. -/
def classesNamesUptoRow : OpenClaim := { program := "ytoifalgkeegklaa", sum := "78403be7a336f74273768fda998d627106dd19fd344e37fc3fbd49e51dbac2e5", func := "ballast/ballastlaw17.ClassesNames", spec := "classesNames", apart := false, narrowed := true }
def ClassesNamesUptoSaid : Prop := classesNamesUptoRow.holds Try.pinned (OpenSpec.upto classesNamesSpec)

/-- 'ballastlaw21.FitFinds', WHERE WHAT IT READS IS OF BULK AT MOST 1048576: true; the input reads as it did. -/
def fitFindsUptoRow : OpenClaim := { program := "ytoifalgkeegklaa", sum := "78403be7a336f74273768fda998d627106dd19fd344e37fc3fbd49e51dbac2e5", func := "ballast/ballastlaw21.FitFinds", spec := "fitFinds", apart := false, narrowed := true }
def FitFindsUptoSaid : Prop := fitFindsUptoRow.holds Try.pinned (OpenSpec.upto fitFindsSpec)

/-- 'ballastlaw17.ClassesAll', WHERE WHAT IT READS IS OF BULK AT MOST 1048576: true; the input reads as it did. -/
def classesAllUptoRow : OpenClaim := { program := "ytoifalgkeegklaa", sum := "78403be7a336f74273768fda998d627106dd19fd344e37fc3fbd49e51dbac2e5", func := "ballast/ballastlaw17.ClassesAll", spec := "classesAll", apart := false, narrowed := true }
def ClassesAllUptoSaid : Prop := classesAllUptoRow.holds Try.pinned (OpenSpec.upto classesAllSpec)

/-- 'ballastlaw21.FitNames', WHERE WHAT IT READS IS OF BULK AT MOST 1048576: true; the input reads as it did. -/
def fitNamesUptoRow : OpenClaim := { program := "ytoifalgkeegklaa", sum := "78403be7a336f74273768fda998d627106dd19fd344e37fc3fbd49e51dbac2e5", func := "ballast/ballastlaw21.FitNames", spec := "fitNames", unfollowed := true, recurses := true, apart := false, narrowed := true }
def FitNamesUptoSaid : Prop := fitNamesUptoRow.holds Try.pinned (OpenSpec.upto fitNamesSpec)

/-- 'ballastlaw21.FitLeast', WHERE WHAT IT READS IS OF BULK AT MOST 1048576: true; the input reads as it did. -/
def fitLeastUptoRow : OpenClaim := { program := "ytoifalgkeegklaa", sum := "78403be7a336f74273768fda998d627106dd19fd344e37fc3fbd49e51dbac2e5", func := "ballast/ballastlaw21.FitLeast", spec := "fitLeast", unfollowed := true, recurses := true, apart := false, narrowed := true }
def FitLeastUptoSaid : Prop := fitLeastUptoRow.holds Try.pinned (OpenSpec.upto fitLeastSpec)

end Rows
end Go.Proofs.Ytoifalgkeegklaa
