/-
  No cell of these rows narrows 'for every input' (looked for: loops, veiled, ifaces, maps, wideKeys, modest, calm, conditions, laid).
  DERIVED. THE GIVEN ROWS OF THIS SEAT. 15 by the template 'for every input the law returns true; each argument reads behind the call as it read before'; 0 by the template 'total and deterministic' (their statements: YthdccahggcjogaaTotals.lean).
  GIVEN WITH THE SEED: the statements are not yours to turn. If you find one false, say at which input.
  Laid BY PROGRAM, IN A SANDBOX (cutbox-rows.mjs): the forced cells as the released guide's own fill.sh prints them over the translation d3747d81ab0a6826… (all of the seat's roots in one cut). By AI agents, Wed Nov 11 2026. No macro, syntax, notation, axiom, sorry.
-/
import Derived.Test.YthdccahggcjogaaChecked
import GoSem.Claim
import GoSem.ClaimJoined
import GoSem.ClaimMapViews
import Derived.JoinedTies
import Derived.KernelRfl
namespace Go.Proofs.Ythdccahggcjogaa
/- THE CELL 'sum', in the pinned program and in every row, IS THE sha256 OF THE DUMP (.gsa) THAT YthdccahggcjogaaProg.lean LOADS. Nothing in Lean hashes anything: it is a label: what it is worth is what the hold of that sum in a sandbox is worth. -/
noncomputable def Try.pinned : Pinned := { name := "ythdccahggcjogaa", sum := "d3747d81ab0a68267baf685bd6b5da221b786e996e3762bf5f9f1efe4db977cb", checked := Try.checked }
namespace Rows
def none {H : Type} : Left H := { results := [], args := [] }

/-- 'ballastlaw14.HeaderWords': WHATEVER THE INPUT: true; the input reads as it did. -/
def headerWordsSpec : ChangeSpec := { name := "headerWords", fn := fun _ => fun
  | [d] => { results := [.lit (.bool true)], args := [d] }
  | _ => none }
def headerWordsRow : OpenClaim := { program := "ythdccahggcjogaa", sum := "d3747d81ab0a68267baf685bd6b5da221b786e996e3762bf5f9f1efe4db977cb", func := "ballast/ballastlaw14.HeaderWords", spec := "headerWords", apart := false }
def HeaderWordsSaid : Prop := headerWordsRow.holds Try.pinned (OpenSpec.ofChange headerWordsSpec)

/-- ITS FALSE NEIGHBOUR: 'it returns false'. Refute it at one input. -/
def headerWordsWrong : ChangeSpec := { name := "headerWords", fn := fun _ => fun
  | [d] => { results := [.lit (.bool false)], args := [d] }
  | _ => none }
def HeaderWordsWrongFalsely : Prop := headerWordsRow.holds Try.pinned (OpenSpec.ofChange headerWordsWrong)

/-- 'ballastlaw14.HeaderOne': WHATEVER THE INPUT: true; the input reads as it did. -/
def headerOneSpec : ChangeSpec := { name := "headerOne", fn := fun _ => fun
  | [d1, d2, d3] => { results := [.lit (.bool true)], args := [d1, d2, d3] }
  | _ => none }
def headerOneRow : OpenClaim := { program := "ythdccahggcjogaa", sum := "d3747d81ab0a68267baf685bd6b5da221b786e996e3762bf5f9f1efe4db977cb", func := "ballast/ballastlaw14.HeaderOne", spec := "headerOne", apart := false }
def HeaderOneSaid : Prop := headerOneRow.holds Try.pinned (OpenSpec.ofChange headerOneSpec)

/-- ITS FALSE NEIGHBOUR: 'it returns false'. Refute it at one input. -/
def headerOneWrong : ChangeSpec := { name := "headerOne", fn := fun _ => fun
  | [d1, d2, d3] => { results := [.lit (.bool false)], args := [d1, d2, d3] }
  | _ => none }
def HeaderOneWrongFalsely : Prop := headerOneRow.holds Try.pinned (OpenSpec.ofChange headerOneWrong)

/-- 'ballastlaw14.HeaderSpoilt': WHATEVER THE INPUT: true; the input reads as it did. -/
def headerSpoiltSpec : ChangeSpec := { name := "headerSpoilt", fn := fun _ => fun
  | [d1, d2, d3] => { results := [.lit (.bool true)], args := [d1, d2, d3] }
  | _ => none }
def headerSpoiltRow : OpenClaim := { program := "ythdccahggcjogaa", sum := "d3747d81ab0a68267baf685bd6b5da221b786e996e3762bf5f9f1efe4db977cb", func := "ballast/ballastlaw14.HeaderSpoilt", spec := "headerSpoilt", apart := false }
def HeaderSpoiltSaid : Prop := headerSpoiltRow.holds Try.pinned (OpenSpec.ofChange headerSpoiltSpec)

/-- ITS FALSE NEIGHBOUR: 'it returns false'. Refute it at one input. -/
def headerSpoiltWrong : ChangeSpec := { name := "headerSpoilt", fn := fun _ => fun
  | [d1, d2, d3] => { results := [.lit (.bool false)], args := [d1, d2, d3] }
  | _ => none }
def HeaderSpoiltWrongFalsely : Prop := headerSpoiltRow.holds Try.pinned (OpenSpec.ofChange headerSpoiltWrong)

/-- 'ballastlaw14.HeaderSplits': WHATEVER THE INPUT: true; the input reads as it did. -/
def headerSplitsSpec : ChangeSpec := { name := "headerSplits", fn := fun _ => fun
  | [d1, d2] => { results := [.lit (.bool true)], args := [d1, d2] }
  | _ => none }
def headerSplitsRow : OpenClaim := { program := "ythdccahggcjogaa", sum := "d3747d81ab0a68267baf685bd6b5da221b786e996e3762bf5f9f1efe4db977cb", func := "ballast/ballastlaw14.HeaderSplits", spec := "headerSplits", apart := false }
def HeaderSplitsSaid : Prop := headerSplitsRow.holds Try.pinned (OpenSpec.ofChange headerSplitsSpec)

/-- ITS FALSE NEIGHBOUR: 'it returns false'. Refute it at one input. -/
def headerSplitsWrong : ChangeSpec := { name := "headerSplits", fn := fun _ => fun
  | [d1, d2] => { results := [.lit (.bool false)], args := [d1, d2] }
  | _ => none }
def HeaderSplitsWrongFalsely : Prop := headerSplitsRow.holds Try.pinned (OpenSpec.ofChange headerSplitsWrong)

/-- 'ballastlaw14.HeaderNames': WHATEVER THE INPUT: true; the input reads as it did. -/
def headerNamesSpec : ChangeSpec := { name := "headerNames", fn := fun _ => fun
  | [] => { results := [.lit (.bool true)], args := [] }
  | _ => none }
def headerNamesRow : OpenClaim := { program := "ythdccahggcjogaa", sum := "d3747d81ab0a68267baf685bd6b5da221b786e996e3762bf5f9f1efe4db977cb", func := "ballast/ballastlaw14.HeaderNames", spec := "headerNames", unfollowed := true, recurses := true, apart := false }
def HeaderNamesSaid : Prop := headerNamesRow.holds Try.pinned (OpenSpec.ofChange headerNamesSpec)

/-- ITS FALSE NEIGHBOUR: 'it returns false'. Refute it at one input. -/
def headerNamesWrong : ChangeSpec := { name := "headerNames", fn := fun _ => fun
  | [] => { results := [.lit (.bool false)], args := [] }
  | _ => none }
def HeaderNamesWrongFalsely : Prop := headerNamesRow.holds Try.pinned (OpenSpec.ofChange headerNamesWrong)

/-- 'ballastlaw14.HeaderMarks': WHATEVER THE INPUT: true; the input reads as it did. -/
def headerMarksSpec : ChangeSpec := { name := "headerMarks", fn := fun _ => fun
  | [d] => { results := [.lit (.bool true)], args := [d] }
  | _ => none }
def headerMarksRow : OpenClaim := { program := "ythdccahggcjogaa", sum := "d3747d81ab0a68267baf685bd6b5da221b786e996e3762bf5f9f1efe4db977cb", func := "ballast/ballastlaw14.HeaderMarks", spec := "headerMarks", apart := false }
def HeaderMarksSaid : Prop := headerMarksRow.holds Try.pinned (OpenSpec.ofChange headerMarksSpec)

/-- ITS FALSE NEIGHBOUR: 'it returns false'. Refute it at one input. -/
def headerMarksWrong : ChangeSpec := { name := "headerMarks", fn := fun _ => fun
  | [d] => { results := [.lit (.bool false)], args := [d] }
  | _ => none }
def HeaderMarksWrongFalsely : Prop := headerMarksRow.holds Try.pinned (OpenSpec.ofChange headerMarksWrong)

/-- 'ballastlaw15.WalkFills': WHATEVER THE INPUT: true; the input reads as it did. -/
def walkFillsSpec : ChangeSpec := { name := "walkFills", fn := fun _ => fun
  | [d] => { results := [.lit (.bool true)], args := [d] }
  | _ => none }
def walkFillsRow : OpenClaim := { program := "ythdccahggcjogaa", sum := "d3747d81ab0a68267baf685bd6b5da221b786e996e3762bf5f9f1efe4db977cb", func := "ballast/ballastlaw15.WalkFills", spec := "walkFills", apart := false }
def WalkFillsSaid : Prop := walkFillsRow.holds Try.pinned (OpenSpec.ofChange walkFillsSpec)

/-- ITS FALSE NEIGHBOUR: 'it returns false'. Refute it at one input. -/
def walkFillsWrong : ChangeSpec := { name := "walkFills", fn := fun _ => fun
  | [d] => { results := [.lit (.bool false)], args := [d] }
  | _ => none }
def WalkFillsWrongFalsely : Prop := walkFillsRow.holds Try.pinned (OpenSpec.ofChange walkFillsWrong)

/-- 'ballastlaw15.WalkWritten': WHATEVER THE INPUT: true; the input reads as it did. -/
def walkWrittenSpec : ChangeSpec := { name := "walkWritten", fn := fun _ => fun
  | [d1, d2] => { results := [.lit (.bool true)], args := [d1, d2] }
  | _ => none }
def walkWrittenRow : OpenClaim := { program := "ythdccahggcjogaa", sum := "d3747d81ab0a68267baf685bd6b5da221b786e996e3762bf5f9f1efe4db977cb", func := "ballast/ballastlaw15.WalkWritten", spec := "walkWritten", apart := false }
def WalkWrittenSaid : Prop := walkWrittenRow.holds Try.pinned (OpenSpec.ofChange walkWrittenSpec)

/-- ITS FALSE NEIGHBOUR: 'it returns false'. Refute it at one input. -/
def walkWrittenWrong : ChangeSpec := { name := "walkWritten", fn := fun _ => fun
  | [d1, d2] => { results := [.lit (.bool false)], args := [d1, d2] }
  | _ => none }
def WalkWrittenWrongFalsely : Prop := walkWrittenRow.holds Try.pinned (OpenSpec.ofChange walkWrittenWrong)

/-- 'ballastlaw15.WalkSpoilt': WHATEVER THE INPUT: true; the input reads as it did. -/
def walkSpoiltSpec : ChangeSpec := { name := "walkSpoilt", fn := fun _ => fun
  | [d1, d2, d3] => { results := [.lit (.bool true)], args := [d1, d2, d3] }
  | _ => none }
def walkSpoiltRow : OpenClaim := { program := "ythdccahggcjogaa", sum := "d3747d81ab0a68267baf685bd6b5da221b786e996e3762bf5f9f1efe4db977cb", func := "ballast/ballastlaw15.WalkSpoilt", spec := "walkSpoilt", apart := false }
def WalkSpoiltSaid : Prop := walkSpoiltRow.holds Try.pinned (OpenSpec.ofChange walkSpoiltSpec)

/-- ITS FALSE NEIGHBOUR: 'it returns false'. Refute it at one input. -/
def walkSpoiltWrong : ChangeSpec := { name := "walkSpoilt", fn := fun _ => fun
  | [d1, d2, d3] => { results := [.lit (.bool false)], args := [d1, d2, d3] }
  | _ => none }
def WalkSpoiltWrongFalsely : Prop := walkSpoiltRow.holds Try.pinned (OpenSpec.ofChange walkSpoiltWrong)

/-- 'ballastlaw15.WalkBlocks': WHATEVER THE INPUT: true; the input reads as it did. -/
def walkBlocksSpec : ChangeSpec := { name := "walkBlocks", fn := fun _ => fun
  | [d1, d2] => { results := [.lit (.bool true)], args := [d1, d2] }
  | _ => none }
def walkBlocksRow : OpenClaim := { program := "ythdccahggcjogaa", sum := "d3747d81ab0a68267baf685bd6b5da221b786e996e3762bf5f9f1efe4db977cb", func := "ballast/ballastlaw15.WalkBlocks", spec := "walkBlocks", apart := false }
def WalkBlocksSaid : Prop := walkBlocksRow.holds Try.pinned (OpenSpec.ofChange walkBlocksSpec)

/-- ITS FALSE NEIGHBOUR: 'it returns false'. Refute it at one input. -/
def walkBlocksWrong : ChangeSpec := { name := "walkBlocks", fn := fun _ => fun
  | [d1, d2] => { results := [.lit (.bool false)], args := [d1, d2] }
  | _ => none }
def WalkBlocksWrongFalsely : Prop := walkBlocksRow.holds Try.pinned (OpenSpec.ofChange walkBlocksWrong)

/-- 'ballastlaw15.WalkNames': WHATEVER THE INPUT: true; the input reads as it did. -/
def walkNamesSpec : ChangeSpec := { name := "walkNames", fn := fun _ => fun
  | [] => { results := [.lit (.bool true)], args := [] }
  | _ => none }
def walkNamesRow : OpenClaim := { program := "ythdccahggcjogaa", sum := "d3747d81ab0a68267baf685bd6b5da221b786e996e3762bf5f9f1efe4db977cb", func := "ballast/ballastlaw15.WalkNames", spec := "walkNames", apart := false }
def WalkNamesSaid : Prop := walkNamesRow.holds Try.pinned (OpenSpec.ofChange walkNamesSpec)

/-- ITS FALSE NEIGHBOUR: 'it returns false'. Refute it at one input. -/
def walkNamesWrong : ChangeSpec := { name := "walkNames", fn := fun _ => fun
  | [] => { results := [.lit (.bool false)], args := [] }
  | _ => none }
def WalkNamesWrongFalsely : Prop := walkNamesRow.holds Try.pinned (OpenSpec.ofChange walkNamesWrong)

/-- 'ballastlaw15.WalkFinds': WHATEVER THE INPUT: true; the input reads as it did. -/
def walkFindsSpec : ChangeSpec := { name := "walkFinds", fn := fun _ => fun
  | [d1, d2] => { results := [.lit (.bool true)], args := [d1, d2] }
  | _ => none }
def walkFindsRow : OpenClaim := { program := "ythdccahggcjogaa", sum := "d3747d81ab0a68267baf685bd6b5da221b786e996e3762bf5f9f1efe4db977cb", func := "ballast/ballastlaw15.WalkFinds", spec := "walkFinds", apart := false }
def WalkFindsSaid : Prop := walkFindsRow.holds Try.pinned (OpenSpec.ofChange walkFindsSpec)

/-- ITS FALSE NEIGHBOUR: 'it returns false'. Refute it at one input. -/
def walkFindsWrong : ChangeSpec := { name := "walkFinds", fn := fun _ => fun
  | [d1, d2] => { results := [.lit (.bool false)], args := [d1, d2] }
  | _ => none }
def WalkFindsWrongFalsely : Prop := walkFindsRow.holds Try.pinned (OpenSpec.ofChange walkFindsWrong)

/-- 'ballastlaw17.ClassesTells': WHATEVER THE INPUT: true; the input reads as it did. -/
def classesTellsSpec : ChangeSpec := { name := "classesTells", fn := fun _ => fun
  | [d1, d2] => { results := [.lit (.bool true)], args := [d1, d2] }
  | _ => none }
def classesTellsRow : OpenClaim := { program := "ythdccahggcjogaa", sum := "d3747d81ab0a68267baf685bd6b5da221b786e996e3762bf5f9f1efe4db977cb", func := "ballast/ballastlaw17.ClassesTells", spec := "classesTells", apart := false }
def ClassesTellsSaid : Prop := classesTellsRow.holds Try.pinned (OpenSpec.ofChange classesTellsSpec)

/-- ITS FALSE NEIGHBOUR: 'it returns false'. Refute it at one input. -/
def classesTellsWrong : ChangeSpec := { name := "classesTells", fn := fun _ => fun
  | [d1, d2] => { results := [.lit (.bool false)], args := [d1, d2] }
  | _ => none }
def ClassesTellsWrongFalsely : Prop := classesTellsRow.holds Try.pinned (OpenSpec.ofChange classesTellsWrong)

/-- 'ballastlaw17.ClassesOrder': WHATEVER THE INPUT: true; the input reads as it did. -/
def classesOrderSpec : ChangeSpec := { name := "classesOrder", fn := fun _ => fun
  | [d1, d2, d3] => { results := [.lit (.bool true)], args := [d1, d2, d3] }
  | _ => none }
def classesOrderRow : OpenClaim := { program := "ythdccahggcjogaa", sum := "d3747d81ab0a68267baf685bd6b5da221b786e996e3762bf5f9f1efe4db977cb", func := "ballast/ballastlaw17.ClassesOrder", spec := "classesOrder", apart := false }
def ClassesOrderSaid : Prop := classesOrderRow.holds Try.pinned (OpenSpec.ofChange classesOrderSpec)

/-- ITS FALSE NEIGHBOUR: 'it returns false'. Refute it at one input. -/
def classesOrderWrong : ChangeSpec := { name := "classesOrder", fn := fun _ => fun
  | [d1, d2, d3] => { results := [.lit (.bool false)], args := [d1, d2, d3] }
  | _ => none }
def ClassesOrderWrongFalsely : Prop := classesOrderRow.holds Try.pinned (OpenSpec.ofChange classesOrderWrong)

/-- 'ballastlaw17.ClassesBounds': WHATEVER THE INPUT: true; the input reads as it did. -/
def classesBoundsSpec : ChangeSpec := { name := "classesBounds", fn := fun _ => fun
  | [d] => { results := [.lit (.bool true)], args := [d] }
  | _ => none }
def classesBoundsRow : OpenClaim := { program := "ythdccahggcjogaa", sum := "d3747d81ab0a68267baf685bd6b5da221b786e996e3762bf5f9f1efe4db977cb", func := "ballast/ballastlaw17.ClassesBounds", spec := "classesBounds", apart := false }
def ClassesBoundsSaid : Prop := classesBoundsRow.holds Try.pinned (OpenSpec.ofChange classesBoundsSpec)

/-- ITS FALSE NEIGHBOUR: 'it returns false'. Refute it at one input. -/
def classesBoundsWrong : ChangeSpec := { name := "classesBounds", fn := fun _ => fun
  | [d] => { results := [.lit (.bool false)], args := [d] }
  | _ => none }
def ClassesBoundsWrongFalsely : Prop := classesBoundsRow.holds Try.pinned (OpenSpec.ofChange classesBoundsWrong)

/- THE SECOND FORM. 'bulk': how many values and letters a reading holds, each counted each time it is reached (what is shared counts as often as it is met; a slice's spare places count too). A statement '..UptoSaid' is the law's where the arguments, and the package variables that the reading takes, are together of bulk at most 1048576: NARROWER than '..Said'. Prove '..Said' where nothing that the law and all that it calls make is longer than what came in: it says more and counts as full. Else prove '..UptoSaid'. A law counts once. -/
mutual
def uptoBulk {H : Type} : DataW H → Nat
  | .lit (.string bytes) => bytes.length + 1
  | .lit _ => 1
  | .nil => 1
  | .ptr d => uptoBulk d + 1
  | .slice elems spare => uptoBulkAll elems + uptoBulkAll spare + 1
  | .agg parts => uptoBulkAll parts + 1
  | .iface _ d => uptoBulk d + 1
  | .map entries => uptoBulkEntries entries + 1
  | .held _ => 1
def uptoBulkAll {H : Type} : List (DataW H) → Nat
  | [] => 0
  | d :: r => uptoBulk d + uptoBulkAll r
def uptoBulkEntries {H : Type} : List (Lit × DataW H) → Nat
  | [] => 0
  | x :: r => uptoBulkEntry x + uptoBulkEntries r
def uptoBulkEntry {H : Type} : Lit × DataW H → Nat
  | (.string bytes, d) => bytes.length + uptoBulk d + 1
  | (_, d) => uptoBulk d + 1
 end
def uptoSmall : (H : Type) → List (DataW H) → Bool := fun _ ds => decide (uptoBulkAll ds ≤ 1048576)
def OpenSpec.upto (s : _root_.Go.ChangeSpec) : _root_.Go.OpenSpec := { _root_.Go.OpenSpec.ofChange s with cond := some uptoSmall }

/-- 'ballastlaw14.HeaderWords', WHERE WHAT IT READS IS OF BULK AT MOST 1048576: true; the input reads as it did. -/
def headerWordsUptoRow : OpenClaim := { program := "ythdccahggcjogaa", sum := "d3747d81ab0a68267baf685bd6b5da221b786e996e3762bf5f9f1efe4db977cb", func := "ballast/ballastlaw14.HeaderWords", spec := "headerWords", apart := false, narrowed := true }
def HeaderWordsUptoSaid : Prop := headerWordsUptoRow.holds Try.pinned (OpenSpec.upto headerWordsSpec)

/-- 'ballastlaw14.HeaderOne', WHERE WHAT IT READS IS OF BULK AT MOST 1048576: true; the input reads as it did. -/
def headerOneUptoRow : OpenClaim := { program := "ythdccahggcjogaa", sum := "d3747d81ab0a68267baf685bd6b5da221b786e996e3762bf5f9f1efe4db977cb", func := "ballast/ballastlaw14.HeaderOne", spec := "headerOne", apart := false, narrowed := true }
def HeaderOneUptoSaid : Prop := headerOneUptoRow.holds Try.pinned (OpenSpec.upto headerOneSpec)

/-- 'ballastlaw14.HeaderSpoilt', WHERE WHAT IT READS IS OF BULK AT MOST 1048576: true; the input reads as it did. -/
def headerSpoiltUptoRow : OpenClaim := { program := "ythdccahggcjogaa", sum := "d3747d81ab0a68267baf685bd6b5da221b786e996e3762bf5f9f1efe4db977cb", func := "ballast/ballastlaw14.HeaderSpoilt", spec := "headerSpoilt", apart := false, narrowed := true }
def HeaderSpoiltUptoSaid : Prop := headerSpoiltUptoRow.holds Try.pinned (OpenSpec.upto headerSpoiltSpec)

/-- 'ballastlaw14.HeaderSplits', WHERE WHAT IT READS IS OF BULK AT MOST 1048576: true; the input reads as it did. -/
def headerSplitsUptoRow : OpenClaim := { program := "ythdccahggcjogaa", sum := "d3747d81ab0a68267baf685bd6b5da221b786e996e3762bf5f9f1efe4db977cb", func := "ballast/ballastlaw14.HeaderSplits", spec := "headerSplits", apart := false, narrowed := true }
def HeaderSplitsUptoSaid : Prop := headerSplitsUptoRow.holds Try.pinned (OpenSpec.upto headerSplitsSpec)

/-- 'ballastlaw14.HeaderNames', WHERE WHAT IT READS IS OF BULK AT MOST 1048576: true; the input reads as it did. -/
def headerNamesUptoRow : OpenClaim := { program := "ythdccahggcjogaa", sum := "d3747d81ab0a68267baf685bd6b5da221b786e996e3762bf5f9f1efe4db977cb", func := "ballast/ballastlaw14.HeaderNames", spec := "headerNames", unfollowed := true, recurses := true, apart := false, narrowed := true }
def HeaderNamesUptoSaid : Prop := headerNamesUptoRow.holds Try.pinned (OpenSpec.upto headerNamesSpec)

/-- 'ballastlaw14.HeaderMarks', WHERE WHAT IT READS IS OF BULK AT MOST 1048576: true; the input reads as it did. -/
def headerMarksUptoRow : OpenClaim := { program := "ythdccahggcjogaa", sum := "d3747d81ab0a68267baf685bd6b5da221b786e996e3762bf5f9f1efe4db977cb", func := "ballast/ballastlaw14.HeaderMarks", spec := "headerMarks", apart := false, narrowed := true }
def HeaderMarksUptoSaid : Prop := headerMarksUptoRow.holds Try.pinned (OpenSpec.upto headerMarksSpec)

/-- 'ballastlaw15.WalkFills', WHERE WHAT IT READS IS OF BULK AT MOST 1048576: true; the input reads as it did. -/
def walkFillsUptoRow : OpenClaim := { program := "ythdccahggcjogaa", sum := "d3747d81ab0a68267baf685bd6b5da221b786e996e3762bf5f9f1efe4db977cb", func := "ballast/ballastlaw15.WalkFills", spec := "walkFills", apart := false, narrowed := true }
def WalkFillsUptoSaid : Prop := walkFillsUptoRow.holds Try.pinned (OpenSpec.upto walkFillsSpec)

/-- 'ballastlaw15.WalkWritten', WHERE WHAT IT READS IS OF BULK AT MOST 1048576: true; the input reads as it did. -/
def walkWrittenUptoRow : OpenClaim := { program := "ythdccahggcjogaa", sum := "d3747d81ab0a68267baf685bd6b5da221b786e996e3762bf5f9f1efe4db977cb", func := "ballast/ballastlaw15.WalkWritten", spec := "walkWritten", apart := false, narrowed := true }
def WalkWrittenUptoSaid : Prop := walkWrittenUptoRow.holds Try.pinned (OpenSpec.upto walkWrittenSpec)

/-- 'ballastlaw15.WalkSpoilt', WHERE WHAT IT READS IS OF BULK AT MOST 1048576: true; the input reads as it did. -/
def walkSpoiltUptoRow : OpenClaim := { program := "ythdccahggcjogaa", sum := "d3747d81ab0a68267baf685bd6b5da221b786e996e3762bf5f9f1efe4db977cb", func := "ballast/ballastlaw15.WalkSpoilt", spec := "walkSpoilt", apart := false, narrowed := true }
def WalkSpoiltUptoSaid : Prop := walkSpoiltUptoRow.holds Try.pinned (OpenSpec.upto walkSpoiltSpec)

/-- 'ballastlaw15.WalkBlocks', WHERE WHAT IT READS IS OF BULK AT MOST 1048576: true; the input reads as it did. -/
def walkBlocksUptoRow : OpenClaim := { program := "ythdccahggcjogaa", sum := "d3747d81ab0a68267baf685bd6b5da221b786e996e3762bf5f9f1efe4db977cb", func := "ballast/ballastlaw15.WalkBlocks", spec := "walkBlocks", apart := false, narrowed := true }
def WalkBlocksUptoSaid : Prop := walkBlocksUptoRow.holds Try.pinned (OpenSpec.upto walkBlocksSpec)

/-- 'ballastlaw15.WalkNames', WHERE WHAT IT READS IS OF BULK AT MOST 1048576: true; the input reads as it did. -/
def walkNamesUptoRow : OpenClaim := { program := "ythdccahggcjogaa", sum := "d3747d81ab0a68267baf685bd6b5da221b786e996e3762bf5f9f1efe4db977cb", func := "ballast/ballastlaw15.WalkNames", spec := "walkNames", apart := false, narrowed := true }
def WalkNamesUptoSaid : Prop := walkNamesUptoRow.holds Try.pinned (OpenSpec.upto walkNamesSpec)

/-- 'ballastlaw15.WalkFinds', WHERE WHAT IT READS IS OF BULK AT MOST 1048576: true; the input reads as it did. -/
def walkFindsUptoRow : OpenClaim := { program := "ythdccahggcjogaa", sum := "d3747d81ab0a68267baf685bd6b5da221b786e996e3762bf5f9f1efe4db977cb", func := "ballast/ballastlaw15.WalkFinds", spec := "walkFinds", apart := false, narrowed := true }
def WalkFindsUptoSaid : Prop := walkFindsUptoRow.holds Try.pinned (OpenSpec.upto walkFindsSpec)

/-- 'ballastlaw17.ClassesTells', WHERE WHAT IT READS IS OF BULK AT MOST 1048576: true; the input reads as it did. -/
def classesTellsUptoRow : OpenClaim := { program := "ythdccahggcjogaa", sum := "d3747d81ab0a68267baf685bd6b5da221b786e996e3762bf5f9f1efe4db977cb", func := "ballast/ballastlaw17.ClassesTells", spec := "classesTells", apart := false, narrowed := true }
def ClassesTellsUptoSaid : Prop := classesTellsUptoRow.holds Try.pinned (OpenSpec.upto classesTellsSpec)

/-- 'ballastlaw17.ClassesOrder', WHERE WHAT IT READS IS OF BULK AT MOST 1048576: true; the input reads as it did. -/
def classesOrderUptoRow : OpenClaim := { program := "ythdccahggcjogaa", sum := "d3747d81ab0a68267baf685bd6b5da221b786e996e3762bf5f9f1efe4db977cb", func := "ballast/ballastlaw17.ClassesOrder", spec := "classesOrder", apart := false, narrowed := true }
def ClassesOrderUptoSaid : Prop := classesOrderUptoRow.holds Try.pinned (OpenSpec.upto classesOrderSpec)

/-- 'ballastlaw17.ClassesBounds', WHERE WHAT IT READS IS OF BULK AT MOST 1048576: true; the input reads as it did. -/
def classesBoundsUptoRow : OpenClaim := { program := "ythdccahggcjogaa", sum := "d3747d81ab0a68267baf685bd6b5da221b786e996e3762bf5f9f1efe4db977cb", func := "ballast/ballastlaw17.ClassesBounds", spec := "classesBounds", apart := false, narrowed := true }
def ClassesBoundsUptoSaid : Prop := classesBoundsUptoRow.holds Try.pinned (OpenSpec.upto classesBoundsSpec)

end Rows
end Go.Proofs.Ythdccahggcjogaa
