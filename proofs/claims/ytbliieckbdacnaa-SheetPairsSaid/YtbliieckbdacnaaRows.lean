/-
  No cell of these rows narrows 'for every input' (looked for: loops, veiled, ifaces, maps, wideKeys, modest, calm, conditions, laid).
  DERIVED. THE GIVEN ROWS OF THIS SEAT. 8 by the template 'for every input the law returns true; each argument reads behind the call as it read before'; 0 by the template 'total and deterministic' (their statements: YtbliieckbdacnaaTotals.lean).
  GIVEN WITH THE SEED: the statements are not yours to turn. If you find one false, say at which input.
  Laid BY PROGRAM, IN A SANDBOX (cutbox-rows.mjs): the forced cells as the released guide's own fill.sh prints them over the translation 43b9b5969ffedfa8… (all of the seat's roots in one cut). By AI agents, Wed Nov 11 2026. No macro, syntax, notation, axiom, sorry.
-/
import Derived.Test.YtbliieckbdacnaaChecked
import GoSem.Claim
import GoSem.ClaimJoined
import GoSem.ClaimMapViews
import Derived.JoinedTies
import Derived.KernelRfl
namespace Go.Proofs.Ytbliieckbdacnaa
/- THE CELL 'sum', in the pinned program and in every row, IS THE sha256 OF THE DUMP (.gsa) THAT YtbliieckbdacnaaProg.lean LOADS. Nothing in Lean hashes anything: it is a label: what it is worth is what the hold of that sum in a sandbox is worth. -/
noncomputable def Try.pinned : Pinned := { name := "ytbliieckbdacnaa", sum := "43b9b5969ffedfa8bdef2ec0cd71d28b66ab1fd68c2666e7a34110610078cbbe", checked := Try.checked }
namespace Rows
def none {H : Type} : Left H := { results := [], args := [] }

/-- 'gatherumlaw37.SheetPrints': WHATEVER THE INPUT: true; the input reads as it did. -/
def sheetPrintsSpec : ChangeSpec := { name := "sheetPrints", fn := fun _ => fun
  | [d1, d2] => { results := [.lit (.bool true)], args := [d1, d2] }
  | _ => none }
def sheetPrintsRow : OpenClaim := { program := "ytbliieckbdacnaa", sum := "43b9b5969ffedfa8bdef2ec0cd71d28b66ab1fd68c2666e7a34110610078cbbe", func := "gatherum/gatherumlaw37.SheetPrints", spec := "sheetPrints", apart := false }
def SheetPrintsSaid : Prop := sheetPrintsRow.holds Try.pinned (OpenSpec.ofChange sheetPrintsSpec)

/-- ITS FALSE NEIGHBOUR: 'it returns false'. Refute it at one input. -/
def sheetPrintsWrong : ChangeSpec := { name := "sheetPrints", fn := fun _ => fun
  | [d1, d2] => { results := [.lit (.bool false)], args := [d1, d2] }
  | _ => none }
def SheetPrintsWrongFalsely : Prop := sheetPrintsRow.holds Try.pinned (OpenSpec.ofChange sheetPrintsWrong)

/-- 'gatherumlaw37.SheetPairs': WHATEVER THE INPUT: true; the input reads as it did. -/
def sheetPairsSpec : ChangeSpec := { name := "sheetPairs", fn := fun _ => fun
  | [d1, d2] => { results := [.lit (.bool true)], args := [d1, d2] }
  | _ => none }
def sheetPairsRow : OpenClaim := { program := "ytbliieckbdacnaa", sum := "43b9b5969ffedfa8bdef2ec0cd71d28b66ab1fd68c2666e7a34110610078cbbe", func := "gatherum/gatherumlaw37.SheetPairs", spec := "sheetPairs", apart := false }
def SheetPairsSaid : Prop := sheetPairsRow.holds Try.pinned (OpenSpec.ofChange sheetPairsSpec)

/-- ITS FALSE NEIGHBOUR: 'it returns false'. Refute it at one input. -/
def sheetPairsWrong : ChangeSpec := { name := "sheetPairs", fn := fun _ => fun
  | [d1, d2] => { results := [.lit (.bool false)], args := [d1, d2] }
  | _ => none }
def SheetPairsWrongFalsely : Prop := sheetPairsRow.holds Try.pinned (OpenSpec.ofChange sheetPairsWrong)

/-- 'gatherumlaw22.AreaTells': WHATEVER THE INPUT: true; the input reads as it did. -/
def areaTellsSpec : ChangeSpec := { name := "areaTells", fn := fun _ => fun
  | [d1, d2] => { results := [.lit (.bool true)], args := [d1, d2] }
  | _ => none }
def areaTellsRow : OpenClaim := { program := "ytbliieckbdacnaa", sum := "43b9b5969ffedfa8bdef2ec0cd71d28b66ab1fd68c2666e7a34110610078cbbe", func := "gatherum/gatherumlaw22.AreaTells", spec := "areaTells", apart := false }
def AreaTellsSaid : Prop := areaTellsRow.holds Try.pinned (OpenSpec.ofChange areaTellsSpec)

/-- ITS FALSE NEIGHBOUR: 'it returns false'. Refute it at one input. -/
def areaTellsWrong : ChangeSpec := { name := "areaTells", fn := fun _ => fun
  | [d1, d2] => { results := [.lit (.bool false)], args := [d1, d2] }
  | _ => none }
def AreaTellsWrongFalsely : Prop := areaTellsRow.holds Try.pinned (OpenSpec.ofChange areaTellsWrong)

/-- 'gatherumlaw22.AreaBlocks': WHATEVER THE INPUT: true; the input reads as it did. -/
def areaBlocksSpec : ChangeSpec := { name := "areaBlocks", fn := fun _ => fun
  | [d1, d2, d3] => { results := [.lit (.bool true)], args := [d1, d2, d3] }
  | _ => none }
def areaBlocksRow : OpenClaim := { program := "ytbliieckbdacnaa", sum := "43b9b5969ffedfa8bdef2ec0cd71d28b66ab1fd68c2666e7a34110610078cbbe", func := "gatherum/gatherumlaw22.AreaBlocks", spec := "areaBlocks", apart := false }
def AreaBlocksSaid : Prop := areaBlocksRow.holds Try.pinned (OpenSpec.ofChange areaBlocksSpec)

/-- ITS FALSE NEIGHBOUR: 'it returns false'. Refute it at one input. -/
def areaBlocksWrong : ChangeSpec := { name := "areaBlocks", fn := fun _ => fun
  | [d1, d2, d3] => { results := [.lit (.bool false)], args := [d1, d2, d3] }
  | _ => none }
def AreaBlocksWrongFalsely : Prop := areaBlocksRow.holds Try.pinned (OpenSpec.ofChange areaBlocksWrong)

/-- 'gatherumlaw22.AreaRoom': WHATEVER THE INPUT: true; the input reads as it did. -/
def areaRoomSpec : ChangeSpec := { name := "areaRoom", fn := fun _ => fun
  | [d1, d2] => { results := [.lit (.bool true)], args := [d1, d2] }
  | _ => none }
def areaRoomRow : OpenClaim := { program := "ytbliieckbdacnaa", sum := "43b9b5969ffedfa8bdef2ec0cd71d28b66ab1fd68c2666e7a34110610078cbbe", func := "gatherum/gatherumlaw22.AreaRoom", spec := "areaRoom", apart := false }
def AreaRoomSaid : Prop := areaRoomRow.holds Try.pinned (OpenSpec.ofChange areaRoomSpec)

/-- ITS FALSE NEIGHBOUR: 'it returns false'. Refute it at one input. -/
def areaRoomWrong : ChangeSpec := { name := "areaRoom", fn := fun _ => fun
  | [d1, d2] => { results := [.lit (.bool false)], args := [d1, d2] }
  | _ => none }
def AreaRoomWrongFalsely : Prop := areaRoomRow.holds Try.pinned (OpenSpec.ofChange areaRoomWrong)

/-- 'gatherumlaw40.KnifePieces': WHATEVER THE INPUT: true; the input reads as it did. -/
def knifePiecesSpec : ChangeSpec := { name := "knifePieces", fn := fun _ => fun
  | [d1, d2, d3, d4] => { results := [.lit (.bool true)], args := [d1, d2, d3, d4] }
  | _ => none }
def knifePiecesRow : OpenClaim := { program := "ytbliieckbdacnaa", sum := "43b9b5969ffedfa8bdef2ec0cd71d28b66ab1fd68c2666e7a34110610078cbbe", func := "gatherum/gatherumlaw40.KnifePieces", spec := "knifePieces", apart := false }
def KnifePiecesSaid : Prop := knifePiecesRow.holds Try.pinned (OpenSpec.ofChange knifePiecesSpec)

/-- ITS FALSE NEIGHBOUR: 'it returns false'. Refute it at one input. -/
def knifePiecesWrong : ChangeSpec := { name := "knifePieces", fn := fun _ => fun
  | [d1, d2, d3, d4] => { results := [.lit (.bool false)], args := [d1, d2, d3, d4] }
  | _ => none }
def KnifePiecesWrongFalsely : Prop := knifePiecesRow.holds Try.pinned (OpenSpec.ofChange knifePiecesWrong)

/-- 'gatherumlaw40.KnifeLies': WHATEVER THE INPUT: true; the input reads as it did. -/
def knifeLiesSpec : ChangeSpec := { name := "knifeLies", fn := fun _ => fun
  | [d1, d2] => { results := [.lit (.bool true)], args := [d1, d2] }
  | _ => none }
def knifeLiesRow : OpenClaim := { program := "ytbliieckbdacnaa", sum := "43b9b5969ffedfa8bdef2ec0cd71d28b66ab1fd68c2666e7a34110610078cbbe", func := "gatherum/gatherumlaw40.KnifeLies", spec := "knifeLies", apart := false }
def KnifeLiesSaid : Prop := knifeLiesRow.holds Try.pinned (OpenSpec.ofChange knifeLiesSpec)

/-- ITS FALSE NEIGHBOUR: 'it returns false'. Refute it at one input. -/
def knifeLiesWrong : ChangeSpec := { name := "knifeLies", fn := fun _ => fun
  | [d1, d2] => { results := [.lit (.bool false)], args := [d1, d2] }
  | _ => none }
def KnifeLiesWrongFalsely : Prop := knifeLiesRow.holds Try.pinned (OpenSpec.ofChange knifeLiesWrong)

/-- 'gatherumlaw40.KnifePanels': WHATEVER THE INPUT: true; the input reads as it did. -/
def knifePanelsSpec : ChangeSpec := { name := "knifePanels", fn := fun _ => fun
  | [d1, d2, d3] => { results := [.lit (.bool true)], args := [d1, d2, d3] }
  | _ => none }
def knifePanelsRow : OpenClaim := { program := "ytbliieckbdacnaa", sum := "43b9b5969ffedfa8bdef2ec0cd71d28b66ab1fd68c2666e7a34110610078cbbe", func := "gatherum/gatherumlaw40.KnifePanels", spec := "knifePanels", apart := false }
def KnifePanelsSaid : Prop := knifePanelsRow.holds Try.pinned (OpenSpec.ofChange knifePanelsSpec)

/-- ITS FALSE NEIGHBOUR: 'it returns false'. Refute it at one input. -/
def knifePanelsWrong : ChangeSpec := { name := "knifePanels", fn := fun _ => fun
  | [d1, d2, d3] => { results := [.lit (.bool false)], args := [d1, d2, d3] }
  | _ => none }
def KnifePanelsWrongFalsely : Prop := knifePanelsRow.holds Try.pinned (OpenSpec.ofChange knifePanelsWrong)

/- THE SECOND FORM. 'bulk': how many values and letters a reading holds, each counted each time it is reached (what is shared counts as often as it is met; a slice's spare places count too). A statement '..UptoSaid' is the law's where the arguments, and the package variables that the reading takes, are together of bulk at most 1048576: NARROWER than '..Said'. Prove '..Said' where nothing that the law and all that it calls make is longer than what came in: it says more and counts as full. Else prove '..UptoSaid'. A law counts once. -/
mutual
def uptoBulk {H : Type} : DataW H → Nat
  | .lit (.string bytes) => bytes.length + 1
  | .lit _ => 1
  | .nil => 1
  | .ptr d => uptoBulk d + 1
  | .slice elems spare => uptoBulkAll elems + uptoBulkAll spare + 1
  | .agg parts => uptoBulkAll parts + 1
  | .iface _ d => uptoBulk d + 1
  | .map entries => uptoBulkEntries entries + 1
  | .held _ => 1
def uptoBulkAll {H : Type} : List (DataW H) → Nat
  | [] => 0
  | d :: r => uptoBulk d + uptoBulkAll r
def uptoBulkEntries {H : Type} : List (Lit × DataW H) → Nat
  | [] => 0
  | x :: r => uptoBulkEntry x + uptoBulkEntries r
def uptoBulkEntry {H : Type} : Lit × DataW H → Nat
  | (.string bytes, d) => bytes.length + uptoBulk d + 1
  | (_, d) => uptoBulk d + 1
 end
def uptoSmall : (H : Type) → List (DataW H) → Bool := fun _ ds => decide (uptoBulkAll ds ≤ 1048576)
def OpenSpec.upto (s : _root_.Go.ChangeSpec) : _root_.Go.OpenSpec := { _root_.Go.OpenSpec.ofChange s with cond := some uptoSmall }

/-- 'gatherumlaw37.SheetPrints', WHERE WHAT IT READS IS OF BULK AT MOST 1048576: true; the input reads as it did. -/
def sheetPrintsUptoRow : OpenClaim := { program := "ytbliieckbdacnaa", sum := "43b9b5969ffedfa8bdef2ec0cd71d28b66ab1fd68c2666e7a34110610078cbbe", func := "gatherum/gatherumlaw37.SheetPrints", spec := "sheetPrints", apart := false, narrowed := true }
def SheetPrintsUptoSaid : Prop := sheetPrintsUptoRow.holds Try.pinned (OpenSpec.upto sheetPrintsSpec)

/-- 'gatherumlaw37.SheetPairs', WHERE WHAT IT READS IS OF BULK AT MOST 1048576: true; the input reads as it did. -/
def sheetPairsUptoRow : OpenClaim := { program := "ytbliieckbdacnaa", sum := "43b9b5969ffedfa8bdef2ec0cd71d28b66ab1fd68c2666e7a34110610078cbbe", func := "gatherum/gatherumlaw37.SheetPairs", spec := "sheetPairs", apart := false, narrowed := true }
def SheetPairsUptoSaid : Prop := sheetPairsUptoRow.holds Try.pinned (OpenSpec.upto sheetPairsSpec)

/-- 'gatherumlaw22.AreaTells', WHERE WHAT IT READS IS OF BULK AT MOST 1048576: true; the input reads as it did. -/
def areaTellsUptoRow : OpenClaim := { program := "ytbliieckbdacnaa", sum := "43b9b5969ffedfa8bdef2ec0cd71d28b66ab1fd68c2666e7a34110610078cbbe", func := "gatherum/gatherumlaw22.AreaTells", spec := "areaTells", apart := false, narrowed := true }
def AreaTellsUptoSaid : Prop := areaTellsUptoRow.holds Try.pinned (OpenSpec.upto areaTellsSpec)

/-- 'gatherumlaw22.AreaBlocks', WHERE WHAT IT READS IS OF BULK AT MOST 1048576: true; the input reads as it did. -/
def areaBlocksUptoRow : OpenClaim := { program := "ytbliieckbdacnaa", sum := "43b9b5969ffedfa8bdef2ec0cd71d28b66ab1fd68c2666e7a34110610078cbbe", func := "gatherum/gatherumlaw22.AreaBlocks", spec := "areaBlocks", apart := false, narrowed := true }
def AreaBlocksUptoSaid : Prop := areaBlocksUptoRow.holds Try.pinned (OpenSpec.upto areaBlocksSpec)

/-- 'gatherumlaw22.AreaRoom', WHERE WHAT IT READS IS OF BULK AT MOST 1048576: true; the input reads as it did. -/
def areaRoomUptoRow : OpenClaim := { program := "ytbliieckbdacnaa", sum := "43b9b5969ffedfa8bdef2ec0cd71d28b66ab1fd68c2666e7a34110610078cbbe", func := "gatherum/gatherumlaw22.AreaRoom", spec := "areaRoom", apart := false, narrowed := true }
def AreaRoomUptoSaid : Prop := areaRoomUptoRow.holds Try.pinned (OpenSpec.upto areaRoomSpec)

/-- 'gatherumlaw40.KnifePieces', WHERE WHAT IT READS IS OF BULK AT MOST 1048576: true; the input reads as it did. -/
def knifePiecesUptoRow : OpenClaim := { program := "ytbliieckbdacnaa", sum := "43b9b5969ffedfa8bdef2ec0cd71d28b66ab1fd68c2666e7a34110610078cbbe", func := "gatherum/gatherumlaw40.KnifePieces", spec := "knifePieces", apart := false, narrowed := true }
def KnifePiecesUptoSaid : Prop := knifePiecesUptoRow.holds Try.pinned (OpenSpec.upto knifePiecesSpec)

/-- 'gatherumlaw40.KnifeLies', WHERE WHAT IT READS IS OF BULK AT MOST 1048576: true; the input reads as it did. -/
def knifeLiesUptoRow : OpenClaim := { program := "ytbliieckbdacnaa", sum := "43b9b5969ffedfa8bdef2ec0cd71d28b66ab1fd68c2666e7a34110610078cbbe", func := "gatherum/gatherumlaw40.KnifeLies", spec := "knifeLies", apart := false, narrowed := true }
def KnifeLiesUptoSaid : Prop := knifeLiesUptoRow.holds Try.pinned (OpenSpec.upto knifeLiesSpec)

/-- 'gatherumlaw40.KnifePanels', WHERE WHAT IT READS IS OF BULK AT MOST 1048576: true; the input reads as it did. -/
def knifePanelsUptoRow : OpenClaim := { program := "ytbliieckbdacnaa", sum := "43b9b5969ffedfa8bdef2ec0cd71d28b66ab1fd68c2666e7a34110610078cbbe", func := "gatherum/gatherumlaw40.KnifePanels", spec := "knifePanels", apart := false, narrowed := true }
def KnifePanelsUptoSaid : Prop := knifePanelsUptoRow.holds Try.pinned (OpenSpec.upto knifePanelsSpec)

end Rows
end Go.Proofs.Ytbliieckbdacnaa
