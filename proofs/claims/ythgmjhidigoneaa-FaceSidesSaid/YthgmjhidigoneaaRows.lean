/-
  No cell of these rows narrows 'for every input' (looked for: loops, veiled, ifaces, maps, wideKeys, modest, calm, conditions, laid).
  DERIVED. THE GIVEN ROWS OF THIS SEAT. 12 by the template 'for every input the law returns true; each argument reads behind the call as it read before'; 0 by the template 'total and deterministic' (their statements: YthgmjhidigoneaaTotals.lean).
  GIVEN WITH THE SEED: the statements are not yours to turn. If you find one false, say at which input.
  Laid BY PROGRAM, IN A SANDBOX (cutbox-rows.mjs): the forced cells as the released guide's own fill.sh prints them over the translation c8470fb352e5b343… (all of the seat's roots in one cut). By AI agents, Wed Nov 11 2026. No macro, syntax, notation, axiom, sorry.
-/
import Derived.Test.YthgmjhidigoneaaChecked
import GoSem.Claim
import GoSem.ClaimJoined
import GoSem.ClaimMapViews
import Derived.JoinedTies
import Derived.KernelRfl
namespace Go.Proofs.Ythgmjhidigoneaa
/- THE CELL 'sum', in the pinned program and in every row, IS THE sha256 OF THE DUMP (.gsa) THAT YthgmjhidigoneaaProg.lean LOADS. Nothing in Lean hashes anything: it is a label: what it is worth is what the hold of that sum in a sandbox is worth. -/
noncomputable def Try.pinned : Pinned := { name := "ythgmjhidigoneaa", sum := "c8470fb352e5b343aea57b5ef9c0d2f119fccc35abf92dc41ec38b2ec6cd324f", checked := Try.checked }
namespace Rows
def none {H : Type} : Left H := { results := [], args := [] }

/-- 'gatherumlaw21.StyleFlips': WHATEVER THE INPUT: true; the input reads as it did. -/
def styleFlipsSpec : ChangeSpec := { name := "styleFlips", fn := fun _ => fun
  | [d1, d2] => { results := [.lit (.bool true)], args := [d1, d2] }
  | _ => none }
def styleFlipsRow : OpenClaim := { program := "ythgmjhidigoneaa", sum := "c8470fb352e5b343aea57b5ef9c0d2f119fccc35abf92dc41ec38b2ec6cd324f", func := "gatherum/gatherumlaw21.StyleFlips", spec := "styleFlips", apart := false }
def StyleFlipsSaid : Prop := styleFlipsRow.holds Try.pinned (OpenSpec.ofChange styleFlipsSpec)

/-- ITS FALSE NEIGHBOUR: 'it returns false'. Refute it at one input. -/
def styleFlipsWrong : ChangeSpec := { name := "styleFlips", fn := fun _ => fun
  | [d1, d2] => { results := [.lit (.bool false)], args := [d1, d2] }
  | _ => none }
def StyleFlipsWrongFalsely : Prop := styleFlipsRow.holds Try.pinned (OpenSpec.ofChange styleFlipsWrong)

/-- 'gatherumlaw21.StyleTells': WHATEVER THE INPUT: true; the input reads as it did. -/
def styleTellsSpec : ChangeSpec := { name := "styleTells", fn := fun _ => fun
  | [d] => { results := [.lit (.bool true)], args := [d] }
  | _ => none }
def styleTellsRow : OpenClaim := { program := "ythgmjhidigoneaa", sum := "c8470fb352e5b343aea57b5ef9c0d2f119fccc35abf92dc41ec38b2ec6cd324f", func := "gatherum/gatherumlaw21.StyleTells", spec := "styleTells", apart := false }
def StyleTellsSaid : Prop := styleTellsRow.holds Try.pinned (OpenSpec.ofChange styleTellsSpec)

/-- ITS FALSE NEIGHBOUR: 'it returns false'. Refute it at one input. -/
def styleTellsWrong : ChangeSpec := { name := "styleTells", fn := fun _ => fun
  | [d] => { results := [.lit (.bool false)], args := [d] }
  | _ => none }
def StyleTellsWrongFalsely : Prop := styleTellsRow.holds Try.pinned (OpenSpec.ofChange styleTellsWrong)

/-- 'gatherumlaw20.PanelTells': WHATEVER THE INPUT: true; the input reads as it did. -/
def panelTellsSpec : ChangeSpec := { name := "panelTells", fn := fun _ => fun
  | [d1, d2, d3, d4, d5] => { results := [.lit (.bool true)], args := [d1, d2, d3, d4, d5] }
  | _ => none }
def panelTellsRow : OpenClaim := { program := "ythgmjhidigoneaa", sum := "c8470fb352e5b343aea57b5ef9c0d2f119fccc35abf92dc41ec38b2ec6cd324f", func := "gatherum/gatherumlaw20.PanelTells", spec := "panelTells", apart := false }
def PanelTellsSaid : Prop := panelTellsRow.holds Try.pinned (OpenSpec.ofChange panelTellsSpec)

/-- ITS FALSE NEIGHBOUR: 'it returns false'. Refute it at one input. -/
def panelTellsWrong : ChangeSpec := { name := "panelTells", fn := fun _ => fun
  | [d1, d2, d3, d4, d5] => { results := [.lit (.bool false)], args := [d1, d2, d3, d4, d5] }
  | _ => none }
def PanelTellsWrongFalsely : Prop := panelTellsRow.holds Try.pinned (OpenSpec.ofChange panelTellsWrong)

/-- 'gatherumlaw38.LayerLies': WHATEVER THE INPUT: true; the input reads as it did. -/
def layerLiesSpec : ChangeSpec := { name := "layerLies", fn := fun _ => fun
  | [d1, d2] => { results := [.lit (.bool true)], args := [d1, d2] }
  | _ => none }
def layerLiesRow : OpenClaim := { program := "ythgmjhidigoneaa", sum := "c8470fb352e5b343aea57b5ef9c0d2f119fccc35abf92dc41ec38b2ec6cd324f", func := "gatherum/gatherumlaw38.LayerLies", spec := "layerLies", apart := false }
def LayerLiesSaid : Prop := layerLiesRow.holds Try.pinned (OpenSpec.ofChange layerLiesSpec)

/-- ITS FALSE NEIGHBOUR: 'it returns false'. Refute it at one input. -/
def layerLiesWrong : ChangeSpec := { name := "layerLies", fn := fun _ => fun
  | [d1, d2] => { results := [.lit (.bool false)], args := [d1, d2] }
  | _ => none }
def LayerLiesWrongFalsely : Prop := layerLiesRow.holds Try.pinned (OpenSpec.ofChange layerLiesWrong)

/-- 'gatherumlaw38.LayerCuts': WHATEVER THE INPUT: true; the input reads as it did. -/
def layerCutsSpec : ChangeSpec := { name := "layerCuts", fn := fun _ => fun
  | [d1, d2, d3] => { results := [.lit (.bool true)], args := [d1, d2, d3] }
  | _ => none }
def layerCutsRow : OpenClaim := { program := "ythgmjhidigoneaa", sum := "c8470fb352e5b343aea57b5ef9c0d2f119fccc35abf92dc41ec38b2ec6cd324f", func := "gatherum/gatherumlaw38.LayerCuts", spec := "layerCuts", apart := false }
def LayerCutsSaid : Prop := layerCutsRow.holds Try.pinned (OpenSpec.ofChange layerCutsSpec)

/-- ITS FALSE NEIGHBOUR: 'it returns false'. Refute it at one input. -/
def layerCutsWrong : ChangeSpec := { name := "layerCuts", fn := fun _ => fun
  | [d1, d2, d3] => { results := [.lit (.bool false)], args := [d1, d2, d3] }
  | _ => none }
def LayerCutsWrongFalsely : Prop := layerCutsRow.holds Try.pinned (OpenSpec.ofChange layerCutsWrong)

/-- 'gatherumlaw43.FaceTells': WHATEVER THE INPUT: true; the input reads as it did. -/
def faceTellsSpec : ChangeSpec := { name := "faceTells", fn := fun _ => fun
  | [d1, d2, d3, d4] => { results := [.lit (.bool true)], args := [d1, d2, d3, d4] }
  | _ => none }
def faceTellsRow : OpenClaim := { program := "ythgmjhidigoneaa", sum := "c8470fb352e5b343aea57b5ef9c0d2f119fccc35abf92dc41ec38b2ec6cd324f", func := "gatherum/gatherumlaw43.FaceTells", spec := "faceTells", apart := false }
def FaceTellsSaid : Prop := faceTellsRow.holds Try.pinned (OpenSpec.ofChange faceTellsSpec)

/-- ITS FALSE NEIGHBOUR: 'it returns false'. Refute it at one input. -/
def faceTellsWrong : ChangeSpec := { name := "faceTells", fn := fun _ => fun
  | [d1, d2, d3, d4] => { results := [.lit (.bool false)], args := [d1, d2, d3, d4] }
  | _ => none }
def FaceTellsWrongFalsely : Prop := faceTellsRow.holds Try.pinned (OpenSpec.ofChange faceTellsWrong)

/-- 'gatherumlaw43.FaceSides': WHATEVER THE INPUT: true; the input reads as it did. -/
def faceSidesSpec : ChangeSpec := { name := "faceSides", fn := fun _ => fun
  | [d1, d2, d3] => { results := [.lit (.bool true)], args := [d1, d2, d3] }
  | _ => none }
def faceSidesRow : OpenClaim := { program := "ythgmjhidigoneaa", sum := "c8470fb352e5b343aea57b5ef9c0d2f119fccc35abf92dc41ec38b2ec6cd324f", func := "gatherum/gatherumlaw43.FaceSides", spec := "faceSides", apart := false }
def FaceSidesSaid : Prop := faceSidesRow.holds Try.pinned (OpenSpec.ofChange faceSidesSpec)

/-- ITS FALSE NEIGHBOUR: 'it returns false'. Refute it at one input. -/
def faceSidesWrong : ChangeSpec := { name := "faceSides", fn := fun _ => fun
  | [d1, d2, d3] => { results := [.lit (.bool false)], args := [d1, d2, d3] }
  | _ => none }
def FaceSidesWrongFalsely : Prop := faceSidesRow.holds Try.pinned (OpenSpec.ofChange faceSidesWrong)

/-- 'gatherumlaw42.TrimWhole': WHATEVER THE INPUT: true; the input reads as it did. -/
def trimWholeSpec : ChangeSpec := { name := "trimWhole", fn := fun _ => fun
  | [d1, d2] => { results := [.lit (.bool true)], args := [d1, d2] }
  | _ => none }
def trimWholeRow : OpenClaim := { program := "ythgmjhidigoneaa", sum := "c8470fb352e5b343aea57b5ef9c0d2f119fccc35abf92dc41ec38b2ec6cd324f", func := "gatherum/gatherumlaw42.TrimWhole", spec := "trimWhole", apart := false }
def TrimWholeSaid : Prop := trimWholeRow.holds Try.pinned (OpenSpec.ofChange trimWholeSpec)

/-- ITS FALSE NEIGHBOUR: 'it returns false'. Refute it at one input. -/
def trimWholeWrong : ChangeSpec := { name := "trimWhole", fn := fun _ => fun
  | [d1, d2] => { results := [.lit (.bool false)], args := [d1, d2] }
  | _ => none }
def TrimWholeWrongFalsely : Prop := trimWholeRow.holds Try.pinned (OpenSpec.ofChange trimWholeWrong)

/-- 'gatherumlaw20.PanelTurns': WHATEVER THE INPUT: true; the input reads as it did. -/
def panelTurnsSpec : ChangeSpec := { name := "panelTurns", fn := fun _ => fun
  | [d] => { results := [.lit (.bool true)], args := [d] }
  | _ => none }
def panelTurnsRow : OpenClaim := { program := "ythgmjhidigoneaa", sum := "c8470fb352e5b343aea57b5ef9c0d2f119fccc35abf92dc41ec38b2ec6cd324f", func := "gatherum/gatherumlaw20.PanelTurns", spec := "panelTurns", apart := false }
def PanelTurnsSaid : Prop := panelTurnsRow.holds Try.pinned (OpenSpec.ofChange panelTurnsSpec)

/-- ITS FALSE NEIGHBOUR: 'it returns false'. Refute it at one input. -/
def panelTurnsWrong : ChangeSpec := { name := "panelTurns", fn := fun _ => fun
  | [d] => { results := [.lit (.bool false)], args := [d] }
  | _ => none }
def PanelTurnsWrongFalsely : Prop := panelTurnsRow.holds Try.pinned (OpenSpec.ofChange panelTurnsWrong)

/-- 'gatherumlaw42.TrimWaste': WHATEVER THE INPUT: true; the input reads as it did. -/
def trimWasteSpec : ChangeSpec := { name := "trimWaste", fn := fun _ => fun
  | [d] => { results := [.lit (.bool true)], args := [d] }
  | _ => none }
def trimWasteRow : OpenClaim := { program := "ythgmjhidigoneaa", sum := "c8470fb352e5b343aea57b5ef9c0d2f119fccc35abf92dc41ec38b2ec6cd324f", func := "gatherum/gatherumlaw42.TrimWaste", spec := "trimWaste", apart := false }
def TrimWasteSaid : Prop := trimWasteRow.holds Try.pinned (OpenSpec.ofChange trimWasteSpec)

/-- ITS FALSE NEIGHBOUR: 'it returns false'. Refute it at one input. -/
def trimWasteWrong : ChangeSpec := { name := "trimWaste", fn := fun _ => fun
  | [d] => { results := [.lit (.bool false)], args := [d] }
  | _ => none }
def TrimWasteWrongFalsely : Prop := trimWasteRow.holds Try.pinned (OpenSpec.ofChange trimWasteWrong)

/-- 'gatherumlaw20.PanelReads': WHATEVER THE INPUT: true; the input reads as it did. -/
def panelReadsSpec : ChangeSpec := { name := "panelReads", fn := fun _ => fun
  | [d1, d2, d3, d4] => { results := [.lit (.bool true)], args := [d1, d2, d3, d4] }
  | _ => none }
def panelReadsRow : OpenClaim := { program := "ythgmjhidigoneaa", sum := "c8470fb352e5b343aea57b5ef9c0d2f119fccc35abf92dc41ec38b2ec6cd324f", func := "gatherum/gatherumlaw20.PanelReads", spec := "panelReads", apart := false }
def PanelReadsSaid : Prop := panelReadsRow.holds Try.pinned (OpenSpec.ofChange panelReadsSpec)

/-- ITS FALSE NEIGHBOUR: 'it returns false'. Refute it at one input. -/
def panelReadsWrong : ChangeSpec := { name := "panelReads", fn := fun _ => fun
  | [d1, d2, d3, d4] => { results := [.lit (.bool false)], args := [d1, d2, d3, d4] }
  | _ => none }
def PanelReadsWrongFalsely : Prop := panelReadsRow.holds Try.pinned (OpenSpec.ofChange panelReadsWrong)

/-- 'gatherumlaw38.LayerKeeps': WHATEVER THE INPUT: true; the input reads as it did. -/
def layerKeepsSpec : ChangeSpec := { name := "layerKeeps", fn := fun _ => fun
  | [d1, d2] => { results := [.lit (.bool true)], args := [d1, d2] }
  | _ => none }
def layerKeepsRow : OpenClaim := { program := "ythgmjhidigoneaa", sum := "c8470fb352e5b343aea57b5ef9c0d2f119fccc35abf92dc41ec38b2ec6cd324f", func := "gatherum/gatherumlaw38.LayerKeeps", spec := "layerKeeps", apart := false }
def LayerKeepsSaid : Prop := layerKeepsRow.holds Try.pinned (OpenSpec.ofChange layerKeepsSpec)

/-- ITS FALSE NEIGHBOUR: 'it returns false'. Refute it at one input. -/
def layerKeepsWrong : ChangeSpec := { name := "layerKeeps", fn := fun _ => fun
  | [d1, d2] => { results := [.lit (.bool false)], args := [d1, d2] }
  | _ => none }
def LayerKeepsWrongFalsely : Prop := layerKeepsRow.holds Try.pinned (OpenSpec.ofChange layerKeepsWrong)

/- THE SECOND FORM. 'bulk': how many values and letters a reading holds, each counted each time it is reached (what is shared counts as often as it is met; a slice's spare places count too). A statement '..UptoSaid' is the law's where the arguments, and the package variables that the reading takes, are together of bulk at most 1048576: NARROWER than '..Said'. Prove '..Said' where nothing that the law and all that it calls make is longer than what came in: it says more and counts as full. Else prove '..UptoSaid'. A law counts once. -/
mutual
def uptoBulk {H : Type} : DataW H → Nat
  | .lit (.string bytes) => bytes.length + 1
  | .lit _ => 1
  | .nil => 1
  | .ptr d => uptoBulk d + 1
  | .slice elems spare => uptoBulkAll elems + uptoBulkAll spare + 1
  | .agg parts => uptoBulkAll parts + 1
  | .iface _ d => uptoBulk d + 1
  | .map entries => uptoBulkEntries entries + 1
  | .held _ => 1
def uptoBulkAll {H : Type} : List (DataW H) → Nat
  | [] => 0
  | d :: r => uptoBulk d + uptoBulkAll r
def uptoBulkEntries {H : Type} : List (Lit × DataW H) → Nat
  | [] => 0
  | x :: r => uptoBulkEntry x + uptoBulkEntries r
def uptoBulkEntry {H : Type} : Lit × DataW H → Nat
  | (.string bytes, d) => bytes.length + uptoBulk d + 1
  | (_, d) => uptoBulk d + 1
 end
def uptoSmall : (H : Type) → List (DataW H) → Bool := fun _ ds => decide (uptoBulkAll ds ≤ 1048576)
def OpenSpec.upto (s : _root_.Go.ChangeSpec) : _root_.Go.OpenSpec := { _root_.Go.OpenSpec.ofChange s with cond := some uptoSmall }

/-- 'gatherumlaw21.StyleFlips', WHERE WHAT IT READS IS OF BULK AT MOST 1048576: true; the input reads as it did. -/
def styleFlipsUptoRow : OpenClaim := { program := "ythgmjhidigoneaa", sum := "c8470fb352e5b343aea57b5ef9c0d2f119fccc35abf92dc41ec38b2ec6cd324f", func := "gatherum/gatherumlaw21.StyleFlips", spec := "styleFlips", apart := false, narrowed := true }
def StyleFlipsUptoSaid : Prop := styleFlipsUptoRow.holds Try.pinned (OpenSpec.upto styleFlipsSpec)

/-- 'gatherumlaw21.StyleTells', WHERE WHAT IT READS IS OF BULK AT MOST 1048576: true; the input reads as it did. -/
def styleTellsUptoRow : OpenClaim := { program := "ythgmjhidigoneaa", sum := "c8470fb352e5b343aea57b5ef9c0d2f119fccc35abf92dc41ec38b2ec6cd324f", func := "gatherum/gatherumlaw21.StyleTells", spec := "styleTells", apart := false, narrowed := true }
def StyleTellsUptoSaid : Prop := styleTellsUptoRow.holds Try.pinned (OpenSpec.upto styleTellsSpec)

/-- 'gatherumlaw20.PanelTells', WHERE WHAT IT READS IS OF BULK AT MOST 1048576: true; the input reads as it did. -/
def panelTellsUptoRow : OpenClaim := { program := "ythgmjhidigoneaa", sum := "c8470fb352e5b343aea57b5ef9c0d2f119fccc35abf92dc41ec38b2ec6cd324f", func := "gatherum/gatherumlaw20.PanelTells", spec := "panelTells", apart := false, narrowed := true }
def PanelTellsUptoSaid : Prop := panelTellsUptoRow.holds Try.pinned (OpenSpec.upto panelTellsSpec)

/-- 'gatherumlaw38.LayerLies', WHERE WHAT IT READS IS OF BULK AT MOST 1048576: true; the input reads as it did. -/
def layerLiesUptoRow : OpenClaim := { program := "ythgmjhidigoneaa", sum := "c8470fb352e5b343aea57b5ef9c0d2f119fccc35abf92dc41ec38b2ec6cd324f", func := "gatherum/gatherumlaw38.LayerLies", spec := "layerLies", apart := false, narrowed := true }
def LayerLiesUptoSaid : Prop := layerLiesUptoRow.holds Try.pinned (OpenSpec.upto layerLiesSpec)

/-- 'gatherumlaw38.LayerCuts', WHERE WHAT IT READS IS OF BULK AT MOST 1048576: true; the input reads as it did. -/
def layerCutsUptoRow : OpenClaim := { program := "ythgmjhidigoneaa", sum := "c8470fb352e5b343aea57b5ef9c0d2f119fccc35abf92dc41ec38b2ec6cd324f", func := "gatherum/gatherumlaw38.LayerCuts", spec := "layerCuts", apart := false, narrowed := true }
def LayerCutsUptoSaid : Prop := layerCutsUptoRow.holds Try.pinned (OpenSpec.upto layerCutsSpec)

/-- 'gatherumlaw43.FaceTells', WHERE WHAT IT READS IS OF BULK AT MOST 1048576: true; the input reads as it did. -/
def faceTellsUptoRow : OpenClaim := { program := "ythgmjhidigoneaa", sum := "c8470fb352e5b343aea57b5ef9c0d2f119fccc35abf92dc41ec38b2ec6cd324f", func := "gatherum/gatherumlaw43.FaceTells", spec := "faceTells", apart := false, narrowed := true }
def FaceTellsUptoSaid : Prop := faceTellsUptoRow.holds Try.pinned (OpenSpec.upto faceTellsSpec)

/-- 'gatherumlaw43.FaceSides', WHERE WHAT IT READS IS OF BULK AT MOST 1048576: true; the input reads as it did. -/
def faceSidesUptoRow : OpenClaim := { program := "ythgmjhidigoneaa", sum := "c8470fb352e5b343aea57b5ef9c0d2f119fccc35abf92dc41ec38b2ec6cd324f", func := "gatherum/gatherumlaw43.FaceSides", spec := "faceSides", apart := false, narrowed := true }
def FaceSidesUptoSaid : Prop := faceSidesUptoRow.holds Try.pinned (OpenSpec.upto faceSidesSpec)

/-- 'gatherumlaw42.TrimWhole', WHERE WHAT IT READS IS OF BULK AT MOST 1048576: true; the input reads as it did. -/
def trimWholeUptoRow : OpenClaim := { program := "ythgmjhidigoneaa", sum := "c8470fb352e5b343aea57b5ef9c0d2f119fccc35abf92dc41ec38b2ec6cd324f", func := "gatherum/gatherumlaw42.TrimWhole", spec := "trimWhole", apart := false, narrowed := true }
def TrimWholeUptoSaid : Prop := trimWholeUptoRow.holds Try.pinned (OpenSpec.upto trimWholeSpec)

/-- 'gatherumlaw20.PanelTurns', WHERE WHAT IT READS IS OF BULK AT MOST 1048576: true; the input reads as it did. -/
def panelTurnsUptoRow : OpenClaim := { program := "ythgmjhidigoneaa", sum := "c8470fb352e5b343aea57b5ef9c0d2f119fccc35abf92dc41ec38b2ec6cd324f", func := "gatherum/gatherumlaw20.PanelTurns", spec := "panelTurns", apart := false, narrowed := true }
def PanelTurnsUptoSaid : Prop := panelTurnsUptoRow.holds Try.pinned (OpenSpec.upto panelTurnsSpec)

/-- 'gatherumlaw42.TrimWaste', WHERE WHAT IT READS IS OF BULK AT MOST 1048576: true; the input reads as it did. -/
def trimWasteUptoRow : OpenClaim := { program := "ythgmjhidigoneaa", sum := "c8470fb352e5b343aea57b5ef9c0d2f119fccc35abf92dc41ec38b2ec6cd324f", func := "gatherum/gatherumlaw42.TrimWaste", spec := "trimWaste", apart := false, narrowed := true }
def TrimWasteUptoSaid : Prop := trimWasteUptoRow.holds Try.pinned (OpenSpec.upto trimWasteSpec)

/-- 'gatherumlaw20.PanelReads', WHERE WHAT IT READS IS OF BULK AT MOST 1048576: true; the input reads as it did. -/
def panelReadsUptoRow : OpenClaim := { program := "ythgmjhidigoneaa", sum := "c8470fb352e5b343aea57b5ef9c0d2f119fccc35abf92dc41ec38b2ec6cd324f", func := "gatherum/gatherumlaw20.PanelReads", spec := "panelReads", apart := false, narrowed := true }
def PanelReadsUptoSaid : Prop := panelReadsUptoRow.holds Try.pinned (OpenSpec.upto panelReadsSpec)

/-- 'gatherumlaw38.LayerKeeps', WHERE WHAT IT READS IS OF BULK AT MOST 1048576: true; the input reads as it did. -/
def layerKeepsUptoRow : OpenClaim := { program := "ythgmjhidigoneaa", sum := "c8470fb352e5b343aea57b5ef9c0d2f119fccc35abf92dc41ec38b2ec6cd324f", func := "gatherum/gatherumlaw38.LayerKeeps", spec := "layerKeeps", apart := false, narrowed := true }
def LayerKeepsUptoSaid : Prop := layerKeepsUptoRow.holds Try.pinned (OpenSpec.upto layerKeepsSpec)

end Rows
end Go.Proofs.Ythgmjhidigoneaa
