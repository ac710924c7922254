/-
  No cell of these rows narrows 'for every input' (looked for: loops, veiled, ifaces, maps, wideKeys, modest, calm, conditions, laid).
  DERIVED. THE GIVEN ROWS OF THIS SEAT. 10 by the template 'for every input the law returns true; each argument reads behind the call as it read before'; 0 by the template 'total and deterministic' (their statements: YtmegbgnfkgebbaaTotals.lean).
  GIVEN WITH THE SEED: the statements are not yours to turn. If you find one false, say at which input.
  Laid BY PROGRAM, IN A SANDBOX (cutbox-rows.mjs): the forced cells as the released guide's own fill.sh prints them over the translation cb76f699e117fc83… (all of the seat's roots in one cut). By AI agents, Wed Nov 11 2026. No macro, syntax, notation, axiom, sorry.
-/
import Derived.Test.YtmegbgnfkgebbaaChecked
import GoSem.Claim
import GoSem.ClaimJoined
import GoSem.ClaimMapViews
import Derived.JoinedTies
import Derived.KernelRfl
namespace Go.Proofs.Ytmegbgnfkgebbaa
/- THE CELL 'sum', in the pinned program and in every row, IS THE sha256 OF THE DUMP (.gsa) THAT YtmegbgnfkgebbaaProg.lean LOADS. Nothing in Lean hashes anything: it is a label: what it is worth is what the hold of that sum in a sandbox is worth. -/
noncomputable def Try.pinned : Pinned := { name := "ytmegbgnfkgebbaa", sum := "cb76f699e117fc836cec802c7e2483cb2aa07268f39ff524c0d1d1c51a4c7a32", checked := Try.checked }
namespace Rows
def none {H : Type} : Left H := { results := [], args := [] }

/-- 'bastilletop.TopWords': WHATEVER THE INPUT: true; the input reads as it did. -/
def topWordsSpec : ChangeSpec := { name := "topWords", fn := fun _ => fun
  | [d1, d2, d3] => { results := [.lit (.bool true)], args := [d1, d2, d3] }
  | _ => none }
def topWordsRow : OpenClaim := { program := "ytmegbgnfkgebbaa", sum := "cb76f699e117fc836cec802c7e2483cb2aa07268f39ff524c0d1d1c51a4c7a32", func := "bastille/bastilletop.TopWords", spec := "topWords", apart := false }
def TopWordsSaid : Prop := topWordsRow.holds Try.pinned (OpenSpec.ofChange topWordsSpec)

/-- ITS FALSE NEIGHBOUR: 'it returns false'. Refute it at one input. -/
def topWordsWrong : ChangeSpec := { name := "topWords", fn := fun _ => fun
  | [d1, d2, d3] => { results := [.lit (.bool false)], args := [d1, d2, d3] }
  | _ => none }
def TopWordsWrongFalsely : Prop := topWordsRow.holds Try.pinned (OpenSpec.ofChange topWordsWrong)

/-- 'bastilletop.TopBoxes': WHATEVER THE INPUT: true; the input reads as it did. -/
def topBoxesSpec : ChangeSpec := { name := "topBoxes", fn := fun _ => fun
  | [d1, d2] => { results := [.lit (.bool true)], args := [d1, d2] }
  | _ => none }
def topBoxesRow : OpenClaim := { program := "ytmegbgnfkgebbaa", sum := "cb76f699e117fc836cec802c7e2483cb2aa07268f39ff524c0d1d1c51a4c7a32", func := "bastille/bastilletop.TopBoxes", spec := "topBoxes", apart := false }
def TopBoxesSaid : Prop := topBoxesRow.holds Try.pinned (OpenSpec.ofChange topBoxesSpec)

/-- ITS FALSE NEIGHBOUR: 'it returns false'. Refute it at one input. -/
def topBoxesWrong : ChangeSpec := { name := "topBoxes", fn := fun _ => fun
  | [d1, d2] => { results := [.lit (.bool false)], args := [d1, d2] }
  | _ => none }
def TopBoxesWrongFalsely : Prop := topBoxesRow.holds Try.pinned (OpenSpec.ofChange topBoxesWrong)

/-- 'bastilletop.TopStreams': WHATEVER THE INPUT: true; the input reads as it did. -/
def topStreamsSpec : ChangeSpec := { name := "topStreams", fn := fun _ => fun
  | [d1, d2, d3, d4] => { results := [.lit (.bool true)], args := [d1, d2, d3, d4] }
  | _ => none }
def topStreamsRow : OpenClaim := { program := "ytmegbgnfkgebbaa", sum := "cb76f699e117fc836cec802c7e2483cb2aa07268f39ff524c0d1d1c51a4c7a32", func := "bastille/bastilletop.TopStreams", spec := "topStreams", unfollowed := true, recurses := true, apart := false }
def TopStreamsSaid : Prop := topStreamsRow.holds Try.pinned (OpenSpec.ofChange topStreamsSpec)

/-- ITS FALSE NEIGHBOUR: 'it returns false'. Refute it at one input. -/
def topStreamsWrong : ChangeSpec := { name := "topStreams", fn := fun _ => fun
  | [d1, d2, d3, d4] => { results := [.lit (.bool false)], args := [d1, d2, d3, d4] }
  | _ => none }
def TopStreamsWrongFalsely : Prop := topStreamsRow.holds Try.pinned (OpenSpec.ofChange topStreamsWrong)

/-- 'bastilletop.TopLogs': WHATEVER THE INPUT: true; the input reads as it did. -/
def topLogsSpec : ChangeSpec := { name := "topLogs", fn := fun _ => fun
  | [d1, d2, d3] => { results := [.lit (.bool true)], args := [d1, d2, d3] }
  | _ => none }
def topLogsRow : OpenClaim := { program := "ytmegbgnfkgebbaa", sum := "cb76f699e117fc836cec802c7e2483cb2aa07268f39ff524c0d1d1c51a4c7a32", func := "bastille/bastilletop.TopLogs", spec := "topLogs", unfollowed := true, recurses := true, apart := false }
def TopLogsSaid : Prop := topLogsRow.holds Try.pinned (OpenSpec.ofChange topLogsSpec)

/-- ITS FALSE NEIGHBOUR: 'it returns false'. Refute it at one input. -/
def topLogsWrong : ChangeSpec := { name := "topLogs", fn := fun _ => fun
  | [d1, d2, d3] => { results := [.lit (.bool false)], args := [d1, d2, d3] }
  | _ => none }
def TopLogsWrongFalsely : Prop := topLogsRow.holds Try.pinned (OpenSpec.ofChange topLogsWrong)

/-- 'bastilletop.TopScalars': WHATEVER THE INPUT: true; the input reads as it did. -/
def topScalarsSpec : ChangeSpec := { name := "topScalars", fn := fun _ => fun
  | [d1, d2, d3, d4] => { results := [.lit (.bool true)], args := [d1, d2, d3, d4] }
  | _ => none }
def topScalarsRow : OpenClaim := { program := "ytmegbgnfkgebbaa", sum := "cb76f699e117fc836cec802c7e2483cb2aa07268f39ff524c0d1d1c51a4c7a32", func := "bastille/bastilletop.TopScalars", spec := "topScalars", apart := false }
def TopScalarsSaid : Prop := topScalarsRow.holds Try.pinned (OpenSpec.ofChange topScalarsSpec)

/-- ITS FALSE NEIGHBOUR: 'it returns false'. Refute it at one input. -/
def topScalarsWrong : ChangeSpec := { name := "topScalars", fn := fun _ => fun
  | [d1, d2, d3, d4] => { results := [.lit (.bool false)], args := [d1, d2, d3, d4] }
  | _ => none }
def TopScalarsWrongFalsely : Prop := topScalarsRow.holds Try.pinned (OpenSpec.ofChange topScalarsWrong)

/-- 'bastilletop.TopDisks': WHATEVER THE INPUT: true; the input reads as it did. -/
def topDisksSpec : ChangeSpec := { name := "topDisks", fn := fun _ => fun
  | [d1, d2] => { results := [.lit (.bool true)], args := [d1, d2] }
  | _ => none }
def topDisksRow : OpenClaim := { program := "ytmegbgnfkgebbaa", sum := "cb76f699e117fc836cec802c7e2483cb2aa07268f39ff524c0d1d1c51a4c7a32", func := "bastille/bastilletop.TopDisks", spec := "topDisks", unfollowed := true, recurses := true, apart := false }
def TopDisksSaid : Prop := topDisksRow.holds Try.pinned (OpenSpec.ofChange topDisksSpec)

/-- ITS FALSE NEIGHBOUR: 'it returns false'. Refute it at one input. -/
def topDisksWrong : ChangeSpec := { name := "topDisks", fn := fun _ => fun
  | [d1, d2] => { results := [.lit (.bool false)], args := [d1, d2] }
  | _ => none }
def TopDisksWrongFalsely : Prop := topDisksRow.holds Try.pinned (OpenSpec.ofChange topDisksWrong)

/-- 'bastilletop.TopGraphs': WHATEVER THE INPUT: true; the input reads as it did. -/
def topGraphsSpec : ChangeSpec := { name := "topGraphs", fn := fun _ => fun
  | [d1, d2, d3] => { results := [.lit (.bool true)], args := [d1, d2, d3] }
  | _ => none }
def topGraphsRow : OpenClaim := { program := "ytmegbgnfkgebbaa", sum := "cb76f699e117fc836cec802c7e2483cb2aa07268f39ff524c0d1d1c51a4c7a32", func := "bastille/bastilletop.TopGraphs", spec := "topGraphs", unfollowed := true, recurses := true, apart := false }
def TopGraphsSaid : Prop := topGraphsRow.holds Try.pinned (OpenSpec.ofChange topGraphsSpec)

/-- ITS FALSE NEIGHBOUR: 'it returns false'. Refute it at one input. -/
def topGraphsWrong : ChangeSpec := { name := "topGraphs", fn := fun _ => fun
  | [d1, d2, d3] => { results := [.lit (.bool false)], args := [d1, d2, d3] }
  | _ => none }
def TopGraphsWrongFalsely : Prop := topGraphsRow.holds Try.pinned (OpenSpec.ofChange topGraphsWrong)

/-- 'bastilletop.TopTags': WHATEVER THE INPUT: true; the input reads as it did. -/
def topTagsSpec : ChangeSpec := { name := "topTags", fn := fun _ => fun
  | [d1, d2, d3, d4, d5, d6] => { results := [.lit (.bool true)], args := [d1, d2, d3, d4, d5, d6] }
  | _ => none }
def topTagsRow : OpenClaim := { program := "ytmegbgnfkgebbaa", sum := "cb76f699e117fc836cec802c7e2483cb2aa07268f39ff524c0d1d1c51a4c7a32", func := "bastille/bastilletop.TopTags", spec := "topTags", unfollowed := true, recurses := true, apart := false }
def TopTagsSaid : Prop := topTagsRow.holds Try.pinned (OpenSpec.ofChange topTagsSpec)

/-- ITS FALSE NEIGHBOUR: 'it returns false'. Refute it at one input. -/
def topTagsWrong : ChangeSpec := { name := "topTags", fn := fun _ => fun
  | [d1, d2, d3, d4, d5, d6] => { results := [.lit (.bool false)], args := [d1, d2, d3, d4, d5, d6] }
  | _ => none }
def TopTagsWrongFalsely : Prop := topTagsRow.holds Try.pinned (OpenSpec.ofChange topTagsWrong)

/-- 'bastilletop.TopElements': WHATEVER THE INPUT: true; the input reads as it did. -/
def topElementsSpec : ChangeSpec := { name := "topElements", fn := fun _ => fun
  | [d1, d2, d3, d4] => { results := [.lit (.bool true)], args := [d1, d2, d3, d4] }
  | _ => none }
def topElementsRow : OpenClaim := { program := "ytmegbgnfkgebbaa", sum := "cb76f699e117fc836cec802c7e2483cb2aa07268f39ff524c0d1d1c51a4c7a32", func := "bastille/bastilletop.TopElements", spec := "topElements", unfollowed := true, recurses := true, apart := false }
def TopElementsSaid : Prop := topElementsRow.holds Try.pinned (OpenSpec.ofChange topElementsSpec)

/-- ITS FALSE NEIGHBOUR: 'it returns false'. Refute it at one input. -/
def topElementsWrong : ChangeSpec := { name := "topElements", fn := fun _ => fun
  | [d1, d2, d3, d4] => { results := [.lit (.bool false)], args := [d1, d2, d3, d4] }
  | _ => none }
def TopElementsWrongFalsely : Prop := topElementsRow.holds Try.pinned (OpenSpec.ofChange topElementsWrong)

/-- 'bastilletop.TopValues': WHATEVER THE INPUT: true; the input reads as it did. -/
def topValuesSpec : ChangeSpec := { name := "topValues", fn := fun _ => fun
  | [d1, d2, d3, d4] => { results := [.lit (.bool true)], args := [d1, d2, d3, d4] }
  | _ => none }
def topValuesRow : OpenClaim := { program := "ytmegbgnfkgebbaa", sum := "cb76f699e117fc836cec802c7e2483cb2aa07268f39ff524c0d1d1c51a4c7a32", func := "bastille/bastilletop.TopValues", spec := "topValues", unfollowed := true, recurses := true, apart := false }
def TopValuesSaid : Prop := topValuesRow.holds Try.pinned (OpenSpec.ofChange topValuesSpec)

/-- ITS FALSE NEIGHBOUR: 'it returns false'. Refute it at one input. -/
def topValuesWrong : ChangeSpec := { name := "topValues", fn := fun _ => fun
  | [d1, d2, d3, d4] => { results := [.lit (.bool false)], args := [d1, d2, d3, d4] }
  | _ => none }
def TopValuesWrongFalsely : Prop := topValuesRow.holds Try.pinned (OpenSpec.ofChange topValuesWrong)

/- THE SECOND FORM. 'bulk': how many values and letters a reading holds, each counted each time it is reached (what is shared counts as often as it is met; a slice's spare places count too). A statement '..UptoSaid' is the law's where the arguments, and the package variables that the reading takes, are together of bulk at most 1048576: NARROWER than '..Said'. Prove '..Said' where nothing that the law and all that it calls make is longer than what came in: it says more and counts as full. Else prove '..UptoSaid'. A law counts once. -/
mutual
def uptoBulk {H : Type} : DataW H → Nat
  | .lit (.string bytes) => bytes.length + 1
  | .lit _ => 1
  | .nil => 1
  | .ptr d => uptoBulk d + 1
  | .slice elems spare => uptoBulkAll elems + uptoBulkAll spare + 1
  | .agg parts => uptoBulkAll parts + 1
  | .iface _ d => uptoBulk d + 1
  | .map entries => uptoBulkEntries entries + 1
  | .held _ => 1
def uptoBulkAll {H : Type} : List (DataW H) → Nat
  | [] => 0
  | d :: r => uptoBulk d + uptoBulkAll r
def uptoBulkEntries {H : Type} : List (Lit × DataW H) → Nat
  | [] => 0
  | x :: r => uptoBulkEntry x + uptoBulkEntries r
def uptoBulkEntry {H : Type} : Lit × DataW H → Nat
  | (.string bytes, d) => bytes.length + uptoBulk d + 1
  | (_, d) => uptoBulk d + 1
 end
def uptoSmall : (H : Type) → List (DataW H) → Bool := fun _ ds => decide (uptoBulkAll ds ≤ 1048576)
def OpenSpec.upto (s : _root_.Go.ChangeSpec) : _root_.Go.OpenSpec := { _root_.Go.OpenSpec.ofChange s with cond := some uptoSmall }

/-- 'bastilletop.TopWords', WHERE WHAT IT READS IS OF BULK AT MOST 1048576: true; the input reads as it did. -/
def topWordsUptoRow : OpenClaim := { program := "ytmegbgnfkgebbaa", sum := "cb76f699e117fc836cec802c7e2483cb2aa07268f39ff524c0d1d1c51a4c7a32", func := "bastille/bastilletop.TopWords", spec := "topWords", apart := false, narrowed := true }
def TopWordsUptoSaid : Prop := topWordsUptoRow.holds Try.pinned (OpenSpec.upto topWordsSpec)

/-- 'bastilletop.TopBoxes', WHERE WHAT IT READS IS OF BULK AT MOST 1048576: true; the input reads as it did. -/
def topBoxesUptoRow : OpenClaim := { program := "ytmegbgnfkgebbaa", sum := "cb76f699e117fc836cec802c7e2483cb2aa07268f39ff524c0d1d1c51a4c7a32", func := "bastille/bastilletop.TopBoxes", spec := "topBoxes", apart := false, narrowed := true }
def TopBoxesUptoSaid : Prop := topBoxesUptoRow.holds Try.pinned (OpenSpec.upto topBoxesSpec)

/-- 'bastilletop.TopStreams', WHERE WHAT IT READS IS OF BULK AT MOST 1048576: true; the input reads as it did. -/
def topStreamsUptoRow : OpenClaim := { program := "ytmegbgnfkgebbaa", sum := "cb76f699e117fc836cec802c7e2483cb2aa07268f39ff524c0d1d1c51a4c7a32", func := "bastille/bastilletop.TopStreams", spec := "topStreams", unfollowed := true, recurses := true, apart := false, narrowed := true }
def TopStreamsUptoSaid : Prop := topStreamsUptoRow.holds Try.pinned (OpenSpec.upto topStreamsSpec)

/-- 'bastilletop.TopLogs', WHERE WHAT IT READS IS OF BULK AT MOST 1048576: true; the input reads as it did. -/
def topLogsUptoRow : OpenClaim := { program := "ytmegbgnfkgebbaa", sum := "cb76f699e117fc836cec802c7e2483cb2aa07268f39ff524c0d1d1c51a4c7a32", func := "bastille/bastilletop.TopLogs", spec := "topLogs", unfollowed := true, recurses := true, apart := false, narrowed := true }
def TopLogsUptoSaid : Prop := topLogsUptoRow.holds Try.pinned (OpenSpec.upto topLogsSpec)

/-- 'bastilletop.TopScalars', WHERE WHAT IT READS IS OF BULK AT MOST 1048576: true; the input reads as it did. -/
def topScalarsUptoRow : OpenClaim := { program := "ytmegbgnfkgebbaa", sum := "cb76f699e117fc836cec802c7e2483cb2aa07268f39ff524c0d1d1c51a4c7a32", func := "bastille/bastilletop.TopScalars", spec := "topScalars", apart := false, narrowed := true }
def TopScalarsUptoSaid : Prop := topScalarsUptoRow.holds Try.pinned (OpenSpec.upto topScalarsSpec)

/-- 'bastilletop.TopDisks', WHERE WHAT IT READS IS OF BULK AT MOST 1048576: true; the input reads as it did. -/
def topDisksUptoRow : OpenClaim := { program := "ytmegbgnfkgebbaa", sum := "cb76f699e117fc836cec802c7e2483cb2aa07268f39ff524c0d1d1c51a4c7a32", func := "bastille/bastilletop.TopDisks", spec := "topDisks", unfollowed := true, recurses := true, apart := false, narrowed := true }
def TopDisksUptoSaid : Prop := topDisksUptoRow.holds Try.pinned (OpenSpec.upto topDisksSpec)

/-- 'bastilletop.TopGraphs', WHERE WHAT IT READS IS OF BULK AT MOST 1048576: true; the input reads as it did. -/
def topGraphsUptoRow : OpenClaim := { program := "ytmegbgnfkgebbaa", sum := "cb76f699e117fc836cec802c7e2483cb2aa07268f39ff524c0d1d1c51a4c7a32", func := "bastille/bastilletop.TopGraphs", spec := "topGraphs", unfollowed := true, recurses := true, apart := false, narrowed := true }
def TopGraphsUptoSaid : Prop := topGraphsUptoRow.holds Try.pinned (OpenSpec.upto topGraphsSpec)

/-- 'bastilletop.TopTags', WHERE WHAT IT READS IS OF BULK AT MOST 1048576: true; the input reads as it did. -/
def topTagsUptoRow : OpenClaim := { program := "ytmegbgnfkgebbaa", sum := "cb76f699e117fc836cec802c7e2483cb2aa07268f39ff524c0d1d1c51a4c7a32", func := "bastille/bastilletop.TopTags", spec := "topTags", unfollowed := true, recurses := true, apart := false, narrowed := true }
def TopTagsUptoSaid : Prop := topTagsUptoRow.holds Try.pinned (OpenSpec.upto topTagsSpec)

/-- 'bastilletop.TopElements', WHERE WHAT IT READS IS OF BULK AT MOST 1048576: true; the input reads as it did. -/
def topElementsUptoRow : OpenClaim := { program := "ytmegbgnfkgebbaa", sum := "cb76f699e117fc836cec802c7e2483cb2aa07268f39ff524c0d1d1c51a4c7a32", func := "bastille/bastilletop.TopElements", spec := "topElements", unfollowed := true, recurses := true, apart := false, narrowed := true }
def TopElementsUptoSaid : Prop := topElementsUptoRow.holds Try.pinned (OpenSpec.upto topElementsSpec)

/-- 'bastilletop.TopValues', WHERE WHAT IT READS IS OF BULK AT MOST 1048576: true; the input reads as it did. -/
def topValuesUptoRow : OpenClaim := { program := "ytmegbgnfkgebbaa", sum := "cb76f699e117fc836cec802c7e2483cb2aa07268f39ff524c0d1d1c51a4c7a32", func := "bastille/bastilletop.TopValues", spec := "topValues", unfollowed := true, recurses := true, apart := false, narrowed := true }
def TopValuesUptoSaid : Prop := topValuesUptoRow.holds Try.pinned (OpenSpec.upto topValuesSpec)

end Rows
end Go.Proofs.Ytmegbgnfkgebbaa
