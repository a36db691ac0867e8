/-
  No cell of these rows narrows 'for every input' (looked for: loops, veiled, ifaces, maps, wideKeys, modest, calm, conditions, laid).
  DERIVED. THE GIVEN ROWS OF THIS SEAT. 11 by the template 'for every input the law returns true; each argument reads behind the call as it read before'; 0 by the template 'total and deterministic' (their statements: YtnahjeeochfljaaTotals.lean).
  GIVEN WITH THE SEED: the statements are not yours to turn. If you find one false, say at which input.
  Laid BY PROGRAM, IN A SANDBOX (cutbox-rows.mjs): the forced cells as the released guide's own fill.sh prints them over the translation d024821d91cbee23… (all of the seat's roots in one cut). By AI agents, Wed Nov 11 2026. No macro, syntax, notation, axiom, sorry.
-/
import Derived.Test.YtnahjeeochfljaaChecked
import GoSem.Claim
import GoSem.ClaimJoined
import GoSem.ClaimMapViews
import Derived.JoinedTies
import Derived.KernelRfl
namespace Go.Proofs.Ytnahjeeochfljaa
/- THE CELL 'sum', in the pinned program and in every row, IS THE sha256 OF THE DUMP (.gsa) THAT YtnahjeeochfljaaProg.lean LOADS. Nothing in Lean hashes anything: it is a label: what it is worth is what the hold of that sum in a sandbox is worth. -/
noncomputable def Try.pinned : Pinned := { name := "ytnahjeeochfljaa", sum := "d024821d91cbee23f03ff81d1e05aa6b44be4dcbaac20b9f21875c61dae09c85", checked := Try.checked }
namespace Rows
def none {H : Type} : Left H := { results := [], args := [] }

/-- 'gatherumlaw06.PlaceDoes': WHATEVER THE INPUT: true; the input reads as it did. -/
def placeDoesSpec : ChangeSpec := { name := "placeDoes", fn := fun _ => fun
  | [d1, d2, d3, d4] => { results := [.lit (.bool true)], args := [d1, d2, d3, d4] }
  | _ => none }
def placeDoesRow : OpenClaim := { program := "ytnahjeeochfljaa", sum := "d024821d91cbee23f03ff81d1e05aa6b44be4dcbaac20b9f21875c61dae09c85", func := "gatherum/gatherumlaw06.PlaceDoes", spec := "placeDoes", apart := false }
def PlaceDoesSaid : Prop := placeDoesRow.holds Try.pinned (OpenSpec.ofChange placeDoesSpec)

/-- ITS FALSE NEIGHBOUR: 'it returns false'. Refute it at one input. -/
def placeDoesWrong : ChangeSpec := { name := "placeDoes", fn := fun _ => fun
  | [d1, d2, d3, d4] => { results := [.lit (.bool false)], args := [d1, d2, d3, d4] }
  | _ => none }
def PlaceDoesWrongFalsely : Prop := placeDoesRow.holds Try.pinned (OpenSpec.ofChange placeDoesWrong)

/-- 'gatherumlaw04.BoxSplits': WHATEVER THE INPUT: true; the input reads as it did. -/
def boxSplitsSpec : ChangeSpec := { name := "boxSplits", fn := fun _ => fun
  | [d1, d2, d3] => { results := [.lit (.bool true)], args := [d1, d2, d3] }
  | _ => none }
def boxSplitsRow : OpenClaim := { program := "ytnahjeeochfljaa", sum := "d024821d91cbee23f03ff81d1e05aa6b44be4dcbaac20b9f21875c61dae09c85", func := "gatherum/gatherumlaw04.BoxSplits", spec := "boxSplits", apart := false }
def BoxSplitsSaid : Prop := boxSplitsRow.holds Try.pinned (OpenSpec.ofChange boxSplitsSpec)

/-- ITS FALSE NEIGHBOUR: 'it returns false'. Refute it at one input. -/
def boxSplitsWrong : ChangeSpec := { name := "boxSplits", fn := fun _ => fun
  | [d1, d2, d3] => { results := [.lit (.bool false)], args := [d1, d2, d3] }
  | _ => none }
def BoxSplitsWrongFalsely : Prop := boxSplitsRow.holds Try.pinned (OpenSpec.ofChange boxSplitsWrong)

/-- 'gatherumlaw05.TurnTexts': WHATEVER THE INPUT: true; the input reads as it did. -/
def turnTextsSpec : ChangeSpec := { name := "turnTexts", fn := fun _ => fun
  | [d1, d2] => { results := [.lit (.bool true)], args := [d1, d2] }
  | _ => none }
def turnTextsRow : OpenClaim := { program := "ytnahjeeochfljaa", sum := "d024821d91cbee23f03ff81d1e05aa6b44be4dcbaac20b9f21875c61dae09c85", func := "gatherum/gatherumlaw05.TurnTexts", spec := "turnTexts", apart := false }
def TurnTextsSaid : Prop := turnTextsRow.holds Try.pinned (OpenSpec.ofChange turnTextsSpec)

/-- ITS FALSE NEIGHBOUR: 'it returns false'. Refute it at one input. -/
def turnTextsWrong : ChangeSpec := { name := "turnTexts", fn := fun _ => fun
  | [d1, d2] => { results := [.lit (.bool false)], args := [d1, d2] }
  | _ => none }
def TurnTextsWrongFalsely : Prop := turnTextsRow.holds Try.pinned (OpenSpec.ofChange turnTextsWrong)

/-- 'gatherumlaw04.BoxMeets': WHATEVER THE INPUT: true; the input reads as it did. -/
def boxMeetsSpec : ChangeSpec := { name := "boxMeets", fn := fun _ => fun
  | [d1, d2] => { results := [.lit (.bool true)], args := [d1, d2] }
  | _ => none }
def boxMeetsRow : OpenClaim := { program := "ytnahjeeochfljaa", sum := "d024821d91cbee23f03ff81d1e05aa6b44be4dcbaac20b9f21875c61dae09c85", func := "gatherum/gatherumlaw04.BoxMeets", spec := "boxMeets", apart := false }
def BoxMeetsSaid : Prop := boxMeetsRow.holds Try.pinned (OpenSpec.ofChange boxMeetsSpec)

/-- ITS FALSE NEIGHBOUR: 'it returns false'. Refute it at one input. -/
def boxMeetsWrong : ChangeSpec := { name := "boxMeets", fn := fun _ => fun
  | [d1, d2] => { results := [.lit (.bool false)], args := [d1, d2] }
  | _ => none }
def BoxMeetsWrongFalsely : Prop := boxMeetsRow.holds Try.pinned (OpenSpec.ofChange boxMeetsWrong)

/-- 'gatherumlaw04.BoxMakes': WHATEVER THE INPUT: true; the input reads as it did. -/
def boxMakesSpec : ChangeSpec := { name := "boxMakes", fn := fun _ => fun
  | [d1, d2] => { results := [.lit (.bool true)], args := [d1, d2] }
  | _ => none }
def boxMakesRow : OpenClaim := { program := "ytnahjeeochfljaa", sum := "d024821d91cbee23f03ff81d1e05aa6b44be4dcbaac20b9f21875c61dae09c85", func := "gatherum/gatherumlaw04.BoxMakes", spec := "boxMakes", apart := false }
def BoxMakesSaid : Prop := boxMakesRow.holds Try.pinned (OpenSpec.ofChange boxMakesSpec)

/-- ITS FALSE NEIGHBOUR: 'it returns false'. Refute it at one input. -/
def boxMakesWrong : ChangeSpec := { name := "boxMakes", fn := fun _ => fun
  | [d1, d2] => { results := [.lit (.bool false)], args := [d1, d2] }
  | _ => none }
def BoxMakesWrongFalsely : Prop := boxMakesRow.holds Try.pinned (OpenSpec.ofChange boxMakesWrong)

/-- 'gatherumlaw05.TurnGroup': WHATEVER THE INPUT: true; the input reads as it did. -/
def turnGroupSpec : ChangeSpec := { name := "turnGroup", fn := fun _ => fun
  | [d1, d2, d3] => { results := [.lit (.bool true)], args := [d1, d2, d3] }
  | _ => none }
def turnGroupRow : OpenClaim := { program := "ytnahjeeochfljaa", sum := "d024821d91cbee23f03ff81d1e05aa6b44be4dcbaac20b9f21875c61dae09c85", func := "gatherum/gatherumlaw05.TurnGroup", spec := "turnGroup", apart := false }
def TurnGroupSaid : Prop := turnGroupRow.holds Try.pinned (OpenSpec.ofChange turnGroupSpec)

/-- ITS FALSE NEIGHBOUR: 'it returns false'. Refute it at one input. -/
def turnGroupWrong : ChangeSpec := { name := "turnGroup", fn := fun _ => fun
  | [d1, d2, d3] => { results := [.lit (.bool false)], args := [d1, d2, d3] }
  | _ => none }
def TurnGroupWrongFalsely : Prop := turnGroupRow.holds Try.pinned (OpenSpec.ofChange turnGroupWrong)

/-- 'gatherumlaw06.PlaceMatrix': WHATEVER THE INPUT: true; the input reads as it did. -/
def placeMatrixSpec : ChangeSpec := { name := "placeMatrix", fn := fun _ => fun
  | [d1, d2, d3] => { results := [.lit (.bool true)], args := [d1, d2, d3] }
  | _ => none }
def placeMatrixRow : OpenClaim := { program := "ytnahjeeochfljaa", sum := "d024821d91cbee23f03ff81d1e05aa6b44be4dcbaac20b9f21875c61dae09c85", func := "gatherum/gatherumlaw06.PlaceMatrix", spec := "placeMatrix", apart := false }
def PlaceMatrixSaid : Prop := placeMatrixRow.holds Try.pinned (OpenSpec.ofChange placeMatrixSpec)

/-- ITS FALSE NEIGHBOUR: 'it returns false'. Refute it at one input. -/
def placeMatrixWrong : ChangeSpec := { name := "placeMatrix", fn := fun _ => fun
  | [d1, d2, d3] => { results := [.lit (.bool false)], args := [d1, d2, d3] }
  | _ => none }
def PlaceMatrixWrongFalsely : Prop := placeMatrixRow.holds Try.pinned (OpenSpec.ofChange placeMatrixWrong)

/-- 'gatherumlaw04.BoxCorners': WHATEVER THE INPUT: true; the input reads as it did. -/
def boxCornersSpec : ChangeSpec := { name := "boxCorners", fn := fun _ => fun
  | [d1, d2] => { results := [.lit (.bool true)], args := [d1, d2] }
  | _ => none }
def boxCornersRow : OpenClaim := { program := "ytnahjeeochfljaa", sum := "d024821d91cbee23f03ff81d1e05aa6b44be4dcbaac20b9f21875c61dae09c85", func := "gatherum/gatherumlaw04.BoxCorners", spec := "boxCorners", unfollowed := true, recurses := true, apart := false }
def BoxCornersSaid : Prop := boxCornersRow.holds Try.pinned (OpenSpec.ofChange boxCornersSpec)

/-- ITS FALSE NEIGHBOUR: 'it returns false'. Refute it at one input. -/
def boxCornersWrong : ChangeSpec := { name := "boxCorners", fn := fun _ => fun
  | [d1, d2] => { results := [.lit (.bool false)], args := [d1, d2] }
  | _ => none }
def BoxCornersWrongFalsely : Prop := boxCornersRow.holds Try.pinned (OpenSpec.ofChange boxCornersWrong)

/-- 'gatherumlaw05.TurnDoes': WHATEVER THE INPUT: true; the input reads as it did. -/
def turnDoesSpec : ChangeSpec := { name := "turnDoes", fn := fun _ => fun
  | [d1, d2] => { results := [.lit (.bool true)], args := [d1, d2] }
  | _ => none }
def turnDoesRow : OpenClaim := { program := "ytnahjeeochfljaa", sum := "d024821d91cbee23f03ff81d1e05aa6b44be4dcbaac20b9f21875c61dae09c85", func := "gatherum/gatherumlaw05.TurnDoes", spec := "turnDoes", apart := false }
def TurnDoesSaid : Prop := turnDoesRow.holds Try.pinned (OpenSpec.ofChange turnDoesSpec)

/-- ITS FALSE NEIGHBOUR: 'it returns false'. Refute it at one input. -/
def turnDoesWrong : ChangeSpec := { name := "turnDoes", fn := fun _ => fun
  | [d1, d2] => { results := [.lit (.bool false)], args := [d1, d2] }
  | _ => none }
def TurnDoesWrongFalsely : Prop := turnDoesRow.holds Try.pinned (OpenSpec.ofChange turnDoesWrong)

/-- 'gatherumlaw04.BoxHulls': WHATEVER THE INPUT: true; the input reads as it did. -/
def boxHullsSpec : ChangeSpec := { name := "boxHulls", fn := fun _ => fun
  | [d] => { results := [.lit (.bool true)], args := [d] }
  | _ => none }
def boxHullsRow : OpenClaim := { program := "ytnahjeeochfljaa", sum := "d024821d91cbee23f03ff81d1e05aa6b44be4dcbaac20b9f21875c61dae09c85", func := "gatherum/gatherumlaw04.BoxHulls", spec := "boxHulls", apart := false }
def BoxHullsSaid : Prop := boxHullsRow.holds Try.pinned (OpenSpec.ofChange boxHullsSpec)

/-- ITS FALSE NEIGHBOUR: 'it returns false'. Refute it at one input. -/
def boxHullsWrong : ChangeSpec := { name := "boxHulls", fn := fun _ => fun
  | [d] => { results := [.lit (.bool false)], args := [d] }
  | _ => none }
def BoxHullsWrongFalsely : Prop := boxHullsRow.holds Try.pinned (OpenSpec.ofChange boxHullsWrong)

/-- 'gatherumlaw06.PlaceGroup': WHATEVER THE INPUT: true; the input reads as it did. -/
def placeGroupSpec : ChangeSpec := { name := "placeGroup", fn := fun _ => fun
  | [d1, d2, d3] => { results := [.lit (.bool true)], args := [d1, d2, d3] }
  | _ => none }
def placeGroupRow : OpenClaim := { program := "ytnahjeeochfljaa", sum := "d024821d91cbee23f03ff81d1e05aa6b44be4dcbaac20b9f21875c61dae09c85", func := "gatherum/gatherumlaw06.PlaceGroup", spec := "placeGroup", apart := false }
def PlaceGroupSaid : Prop := placeGroupRow.holds Try.pinned (OpenSpec.ofChange placeGroupSpec)

/-- ITS FALSE NEIGHBOUR: 'it returns false'. Refute it at one input. -/
def placeGroupWrong : ChangeSpec := { name := "placeGroup", fn := fun _ => fun
  | [d1, d2, d3] => { results := [.lit (.bool false)], args := [d1, d2, d3] }
  | _ => none }
def PlaceGroupWrongFalsely : Prop := placeGroupRow.holds Try.pinned (OpenSpec.ofChange placeGroupWrong)

/- THE SECOND FORM. 'bulk': how many values and letters a reading holds, each counted each time it is reached (what is shared counts as often as it is met; a slice's spare places count too). A statement '..UptoSaid' is the law's where the arguments, and the package variables that the reading takes, are together of bulk at most 1048576: NARROWER than '..Said'. Prove '..Said' where nothing that the law and all that it calls make is longer than what came in: it says more and counts as full. Else prove '..UptoSaid'. A law counts once. -/
mutual
def uptoBulk {H : Type} : DataW H → Nat
  | .lit (.string bytes) => bytes.length + 1
  | .lit _ => 1
  | .nil => 1
  | .ptr d => uptoBulk d + 1
  | .slice elems spare => uptoBulkAll elems + uptoBulkAll spare + 1
  | .agg parts => uptoBulkAll parts + 1
  | .iface _ d => uptoBulk d + 1
  | .map entries => uptoBulkEntries entries + 1
  | .held _ => 1
def uptoBulkAll {H : Type} : List (DataW H) → Nat
  | [] => 0
  | d :: r => uptoBulk d + uptoBulkAll r
def uptoBulkEntries {H : Type} : List (Lit × DataW H) → Nat
  | [] => 0
  | x :: r => uptoBulkEntry x + uptoBulkEntries r
def uptoBulkEntry {H : Type} : Lit × DataW H → Nat
  | (.string bytes, d) => bytes.length + uptoBulk d + 1
  | (_, d) => uptoBulk d + 1
 end
def uptoSmall : (H : Type) → List (DataW H) → Bool := fun _ ds => decide (uptoBulkAll ds ≤ 1048576)
def OpenSpec.upto (s : _root_.Go.ChangeSpec) : _root_.Go.OpenSpec := { _root_.Go.OpenSpec.ofChange s with cond := some uptoSmall }

/-- 'gatherumlaw06.PlaceDoes', WHERE WHAT IT READS IS OF BULK AT MOST 1048576: true; the input reads as it did. -/
def placeDoesUptoRow : OpenClaim := { program := "ytnahjeeochfljaa", sum := "d024821d91cbee23f03ff81d1e05aa6b44be4dcbaac20b9f21875c61dae09c85", func := "gatherum/gatherumlaw06.PlaceDoes", spec := "placeDoes", apart := false, narrowed := true }
def PlaceDoesUptoSaid : Prop := placeDoesUptoRow.holds Try.pinned (OpenSpec.upto placeDoesSpec)

/-- 'gatherumlaw04.BoxSplits', WHERE WHAT IT READS IS OF BULK AT MOST 1048576: true; the input reads as it did. -/
def boxSplitsUptoRow : OpenClaim := { program := "ytnahjeeochfljaa", sum := "d024821d91cbee23f03ff81d1e05aa6b44be4dcbaac20b9f21875c61dae09c85", func := "gatherum/gatherumlaw04.BoxSplits", spec := "boxSplits", apart := false, narrowed := true }
def BoxSplitsUptoSaid : Prop := boxSplitsUptoRow.holds Try.pinned (OpenSpec.upto boxSplitsSpec)

/-- 'gatherumlaw05.TurnTexts', WHERE WHAT IT READS IS OF BULK AT MOST 1048576: true; the input reads as it did. -/
def turnTextsUptoRow : OpenClaim := { program := "ytnahjeeochfljaa", sum := "d024821d91cbee23f03ff81d1e05aa6b44be4dcbaac20b9f21875c61dae09c85", func := "gatherum/gatherumlaw05.TurnTexts", spec := "turnTexts", apart := false, narrowed := true }
def TurnTextsUptoSaid : Prop := turnTextsUptoRow.holds Try.pinned (OpenSpec.upto turnTextsSpec)

/-- 'gatherumlaw04.BoxMeets', WHERE WHAT IT READS IS OF BULK AT MOST 1048576: true; the input reads as it did. -/
def boxMeetsUptoRow : OpenClaim := { program := "ytnahjeeochfljaa", sum := "d024821d91cbee23f03ff81d1e05aa6b44be4dcbaac20b9f21875c61dae09c85", func := "gatherum/gatherumlaw04.BoxMeets", spec := "boxMeets", apart := false, narrowed := true }
def BoxMeetsUptoSaid : Prop := boxMeetsUptoRow.holds Try.pinned (OpenSpec.upto boxMeetsSpec)

/-- 'gatherumlaw04.BoxMakes', WHERE WHAT IT READS IS OF BULK AT MOST 1048576: true; the input reads as it did. -/
def boxMakesUptoRow : OpenClaim := { program := "ytnahjeeochfljaa", sum := "d024821d91cbee23f03ff81d1e05aa6b44be4dcbaac20b9f21875c61dae09c85", func := "gatherum/gatherumlaw04.BoxMakes", spec := "boxMakes", apart := false, narrowed := true }
def BoxMakesUptoSaid : Prop := boxMakesUptoRow.holds Try.pinned (OpenSpec.upto boxMakesSpec)

/-- 'gatherumlaw05.TurnGroup', WHERE WHAT IT READS IS OF BULK AT MOST 1048576: true; the input reads as it did. -/
def turnGroupUptoRow : OpenClaim := { program := "ytnahjeeochfljaa", sum := "d024821d91cbee23f03ff81d1e05aa6b44be4dcbaac20b9f21875c61dae09c85", func := "gatherum/gatherumlaw05.TurnGroup", spec := "turnGroup", apart := false, narrowed := true }
def TurnGroupUptoSaid : Prop := turnGroupUptoRow.holds Try.pinned (OpenSpec.upto turnGroupSpec)

/-- 'gatherumlaw06.PlaceMatrix', WHERE WHAT IT READS IS OF BULK AT MOST 1048576: true; the input reads as it did. -/
def placeMatrixUptoRow : OpenClaim := { program := "ytnahjeeochfljaa", sum := "d024821d91cbee23f03ff81d1e05aa6b44be4dcbaac20b9f21875c61dae09c85", func := "gatherum/gatherumlaw06.PlaceMatrix", spec := "placeMatrix", apart := false, narrowed := true }
def PlaceMatrixUptoSaid : Prop := placeMatrixUptoRow.holds Try.pinned (OpenSpec.upto placeMatrixSpec)

/-- 'gatherumlaw04.BoxCorners', WHERE WHAT IT READS IS OF BULK AT MOST 1048576: true; the input reads as it did. -/
def boxCornersUptoRow : OpenClaim := { program := "ytnahjeeochfljaa", sum := "d024821d91cbee23f03ff81d1e05aa6b44be4dcbaac20b9f21875c61dae09c85", func := "gatherum/gatherumlaw04.BoxCorners", spec := "boxCorners", unfollowed := true, recurses := true, apart := false, narrowed := true }
def BoxCornersUptoSaid : Prop := boxCornersUptoRow.holds Try.pinned (OpenSpec.upto boxCornersSpec)

/-- 'gatherumlaw05.TurnDoes', WHERE WHAT IT READS IS OF BULK AT MOST 1048576: true; the input reads as it did. -/
def turnDoesUptoRow : OpenClaim := { program := "ytnahjeeochfljaa", sum := "d024821d91cbee23f03ff81d1e05aa6b44be4dcbaac20b9f21875c61dae09c85", func := "gatherum/gatherumlaw05.TurnDoes", spec := "turnDoes", apart := false, narrowed := true }
def TurnDoesUptoSaid : Prop := turnDoesUptoRow.holds Try.pinned (OpenSpec.upto turnDoesSpec)

/-- 'gatherumlaw04.BoxHulls', WHERE WHAT IT READS IS OF BULK AT MOST 1048576: true; the input reads as it did. -/
def boxHullsUptoRow : OpenClaim := { program := "ytnahjeeochfljaa", sum := "d024821d91cbee23f03ff81d1e05aa6b44be4dcbaac20b9f21875c61dae09c85", func := "gatherum/gatherumlaw04.BoxHulls", spec := "boxHulls", apart := false, narrowed := true }
def BoxHullsUptoSaid : Prop := boxHullsUptoRow.holds Try.pinned (OpenSpec.upto boxHullsSpec)

/-- 'gatherumlaw06.PlaceGroup', WHERE WHAT IT READS IS OF BULK AT MOST 1048576: true; the input reads as it did. -/
def placeGroupUptoRow : OpenClaim := { program := "ytnahjeeochfljaa", sum := "d024821d91cbee23f03ff81d1e05aa6b44be4dcbaac20b9f21875c61dae09c85", func := "gatherum/gatherumlaw06.PlaceGroup", spec := "placeGroup", apart := false, narrowed := true }
def PlaceGroupUptoSaid : Prop := placeGroupUptoRow.holds Try.pinned (OpenSpec.upto placeGroupSpec)

end Rows
end Go.Proofs.Ytnahjeeochfljaa
