/-
  No cell of these rows narrows 'for every input' (looked for: loops, veiled, ifaces, maps, wideKeys, modest, calm, conditions, laid).
  DERIVED. THE GIVEN ROWS OF THIS SEAT. 9 by the template 'for every input the law returns true; each argument reads behind the call as it read before'; 0 by the template 'total and deterministic' (their statements: YtpicoedbkeljoaaTotals.lean).
  GIVEN WITH THE SEED: the statements are not yours to turn. If you find one false, say at which input.
  Laid BY PROGRAM, IN A SANDBOX (cutbox-rows.mjs): the forced cells as the released guide's own fill.sh prints them over the translation b1da1831b5938b8c… (all of the seat's roots in one cut). By AI agents, Wed Nov 11 2026. No macro, syntax, notation, axiom, sorry.
-/
import Derived.Test.YtpicoedbkeljoaaChecked
import GoSem.Claim
import GoSem.ClaimJoined
import GoSem.ClaimMapViews
import Derived.JoinedTies
import Derived.KernelRfl
namespace Go.Proofs.Ytpicoedbkeljoaa
/- THE CELL 'sum', in the pinned program and in every row, IS THE sha256 OF THE DUMP (.gsa) THAT YtpicoedbkeljoaaProg.lean LOADS. Nothing in Lean hashes anything: it is a label: what it is worth is what the hold of that sum in a sandbox is worth. -/
noncomputable def Try.pinned : Pinned := { name := "ytpicoedbkeljoaa", sum := "b1da1831b5938b8cc0fbdc392a19546a5e28d4e79646410eade5bbb93daa8cc6", checked := Try.checked }
namespace Rows
def none {H : Type} : Left H := { results := [], args := [] }

/-- 'gatherumlaw03.SpanCuts': WHATEVER THE INPUT: true; the input reads as it did. -/
def spanCutsSpec : ChangeSpec := { name := "spanCuts", fn := fun _ => fun
  | [d1, d2, d3] => { results := [.lit (.bool true)], args := [d1, d2, d3] }
  | _ => none }
def spanCutsRow : OpenClaim := { program := "ytpicoedbkeljoaa", sum := "b1da1831b5938b8cc0fbdc392a19546a5e28d4e79646410eade5bbb93daa8cc6", func := "gatherum/gatherumlaw03.SpanCuts", spec := "spanCuts", recurses := true, apart := false }
def SpanCutsSaid : Prop := spanCutsRow.holds Try.pinned (OpenSpec.ofChange spanCutsSpec)

/-- ITS FALSE NEIGHBOUR: 'it returns false'. Refute it at one input. -/
def spanCutsWrong : ChangeSpec := { name := "spanCuts", fn := fun _ => fun
  | [d1, d2, d3] => { results := [.lit (.bool false)], args := [d1, d2, d3] }
  | _ => none }
def SpanCutsWrongFalsely : Prop := spanCutsRow.holds Try.pinned (OpenSpec.ofChange spanCutsWrong)

/-- 'gatherumlaw03.SpanLeaves': WHATEVER THE INPUT: true; the input reads as it did. -/
def spanLeavesSpec : ChangeSpec := { name := "spanLeaves", fn := fun _ => fun
  | [d1, d2, d3] => { results := [.lit (.bool true)], args := [d1, d2, d3] }
  | _ => none }
def spanLeavesRow : OpenClaim := { program := "ytpicoedbkeljoaa", sum := "b1da1831b5938b8cc0fbdc392a19546a5e28d4e79646410eade5bbb93daa8cc6", func := "gatherum/gatherumlaw03.SpanLeaves", spec := "spanLeaves", recurses := true, apart := false }
def SpanLeavesSaid : Prop := spanLeavesRow.holds Try.pinned (OpenSpec.ofChange spanLeavesSpec)

/-- ITS FALSE NEIGHBOUR: 'it returns false'. Refute it at one input. -/
def spanLeavesWrong : ChangeSpec := { name := "spanLeaves", fn := fun _ => fun
  | [d1, d2, d3] => { results := [.lit (.bool false)], args := [d1, d2, d3] }
  | _ => none }
def SpanLeavesWrongFalsely : Prop := spanLeavesRow.holds Try.pinned (OpenSpec.ofChange spanLeavesWrong)

/-- 'gatherumlaw03.SpanWithin': WHATEVER THE INPUT: true; the input reads as it did. -/
def spanWithinSpec : ChangeSpec := { name := "spanWithin", fn := fun _ => fun
  | [d1, d2] => { results := [.lit (.bool true)], args := [d1, d2] }
  | _ => none }
def spanWithinRow : OpenClaim := { program := "ytpicoedbkeljoaa", sum := "b1da1831b5938b8cc0fbdc392a19546a5e28d4e79646410eade5bbb93daa8cc6", func := "gatherum/gatherumlaw03.SpanWithin", spec := "spanWithin", recurses := true, apart := false }
def SpanWithinSaid : Prop := spanWithinRow.holds Try.pinned (OpenSpec.ofChange spanWithinSpec)

/-- ITS FALSE NEIGHBOUR: 'it returns false'. Refute it at one input. -/
def spanWithinWrong : ChangeSpec := { name := "spanWithin", fn := fun _ => fun
  | [d1, d2] => { results := [.lit (.bool false)], args := [d1, d2] }
  | _ => none }
def SpanWithinWrongFalsely : Prop := spanWithinRow.holds Try.pinned (OpenSpec.ofChange spanWithinWrong)

/-- 'gatherumlaw03.SpanTells': WHATEVER THE INPUT: true; the input reads as it did. -/
def spanTellsSpec : ChangeSpec := { name := "spanTells", fn := fun _ => fun
  | [d1, d2, d3] => { results := [.lit (.bool true)], args := [d1, d2, d3] }
  | _ => none }
def spanTellsRow : OpenClaim := { program := "ytpicoedbkeljoaa", sum := "b1da1831b5938b8cc0fbdc392a19546a5e28d4e79646410eade5bbb93daa8cc6", func := "gatherum/gatherumlaw03.SpanTells", spec := "spanTells", recurses := true, apart := false }
def SpanTellsSaid : Prop := spanTellsRow.holds Try.pinned (OpenSpec.ofChange spanTellsSpec)

/-- ITS FALSE NEIGHBOUR: 'it returns false'. Refute it at one input. -/
def spanTellsWrong : ChangeSpec := { name := "spanTells", fn := fun _ => fun
  | [d1, d2, d3] => { results := [.lit (.bool false)], args := [d1, d2, d3] }
  | _ => none }
def SpanTellsWrongFalsely : Prop := spanTellsRow.holds Try.pinned (OpenSpec.ofChange spanTellsWrong)

/-- 'gatherumlaw52.CutsTell': WHATEVER THE INPUT: true; the input reads as it did. -/
def cutsTellSpec : ChangeSpec := { name := "cutsTell", fn := fun _ => fun
  | [d1, d2] => { results := [.lit (.bool true)], args := [d1, d2] }
  | _ => none }
def cutsTellRow : OpenClaim := { program := "ytpicoedbkeljoaa", sum := "b1da1831b5938b8cc0fbdc392a19546a5e28d4e79646410eade5bbb93daa8cc6", func := "gatherum/gatherumlaw52.CutsTell", spec := "cutsTell", unfollowed := true, recurses := true, apart := false }
def CutsTellSaid : Prop := cutsTellRow.holds Try.pinned (OpenSpec.ofChange cutsTellSpec)

/-- ITS FALSE NEIGHBOUR: 'it returns false'. Refute it at one input. -/
def cutsTellWrong : ChangeSpec := { name := "cutsTell", fn := fun _ => fun
  | [d1, d2] => { results := [.lit (.bool false)], args := [d1, d2] }
  | _ => none }
def CutsTellWrongFalsely : Prop := cutsTellRow.holds Try.pinned (OpenSpec.ofChange cutsTellWrong)

/-- 'gatherumlaw52.CutsKeep': WHATEVER THE INPUT: true; the input reads as it did. -/
def cutsKeepSpec : ChangeSpec := { name := "cutsKeep", fn := fun _ => fun
  | [d1, d2] => { results := [.lit (.bool true)], args := [d1, d2] }
  | _ => none }
def cutsKeepRow : OpenClaim := { program := "ytpicoedbkeljoaa", sum := "b1da1831b5938b8cc0fbdc392a19546a5e28d4e79646410eade5bbb93daa8cc6", func := "gatherum/gatherumlaw52.CutsKeep", spec := "cutsKeep", unfollowed := true, recurses := true, apart := false }
def CutsKeepSaid : Prop := cutsKeepRow.holds Try.pinned (OpenSpec.ofChange cutsKeepSpec)

/-- ITS FALSE NEIGHBOUR: 'it returns false'. Refute it at one input. -/
def cutsKeepWrong : ChangeSpec := { name := "cutsKeep", fn := fun _ => fun
  | [d1, d2] => { results := [.lit (.bool false)], args := [d1, d2] }
  | _ => none }
def CutsKeepWrongFalsely : Prop := cutsKeepRow.holds Try.pinned (OpenSpec.ofChange cutsKeepWrong)

/-- 'gatherumlaw49.CoverCounts': WHATEVER THE INPUT: true; the input reads as it did. -/
def coverCountsSpec : ChangeSpec := { name := "coverCounts", fn := fun _ => fun
  | [d1, d2] => { results := [.lit (.bool true)], args := [d1, d2] }
  | _ => none }
def coverCountsRow : OpenClaim := { program := "ytpicoedbkeljoaa", sum := "b1da1831b5938b8cc0fbdc392a19546a5e28d4e79646410eade5bbb93daa8cc6", func := "gatherum/gatherumlaw49.CoverCounts", spec := "coverCounts", unfollowed := true, recurses := true, apart := false }
def CoverCountsSaid : Prop := coverCountsRow.holds Try.pinned (OpenSpec.ofChange coverCountsSpec)

/-- ITS FALSE NEIGHBOUR: 'it returns false'. Refute it at one input. -/
def coverCountsWrong : ChangeSpec := { name := "coverCounts", fn := fun _ => fun
  | [d1, d2] => { results := [.lit (.bool false)], args := [d1, d2] }
  | _ => none }
def CoverCountsWrongFalsely : Prop := coverCountsRow.holds Try.pinned (OpenSpec.ofChange coverCountsWrong)

/-- 'gatherumlaw49.CoverJoins': WHATEVER THE INPUT: true; the input reads as it did. -/
def coverJoinsSpec : ChangeSpec := { name := "coverJoins", fn := fun _ => fun
  | [d1, d2, d3] => { results := [.lit (.bool true)], args := [d1, d2, d3] }
  | _ => none }
def coverJoinsRow : OpenClaim := { program := "ytpicoedbkeljoaa", sum := "b1da1831b5938b8cc0fbdc392a19546a5e28d4e79646410eade5bbb93daa8cc6", func := "gatherum/gatherumlaw49.CoverJoins", spec := "coverJoins", unfollowed := true, recurses := true, apart := false }
def CoverJoinsSaid : Prop := coverJoinsRow.holds Try.pinned (OpenSpec.ofChange coverJoinsSpec)

/-- ITS FALSE NEIGHBOUR: 'it returns false'. Refute it at one input. -/
def coverJoinsWrong : ChangeSpec := { name := "coverJoins", fn := fun _ => fun
  | [d1, d2, d3] => { results := [.lit (.bool false)], args := [d1, d2, d3] }
  | _ => none }
def CoverJoinsWrongFalsely : Prop := coverJoinsRow.holds Try.pinned (OpenSpec.ofChange coverJoinsWrong)

/-- 'gatherumlaw49.CoverPlates': WHATEVER THE INPUT: true; the input reads as it did. -/
def coverPlatesSpec : ChangeSpec := { name := "coverPlates", fn := fun _ => fun
  | [d] => { results := [.lit (.bool true)], args := [d] }
  | _ => none }
def coverPlatesRow : OpenClaim := { program := "ytpicoedbkeljoaa", sum := "b1da1831b5938b8cc0fbdc392a19546a5e28d4e79646410eade5bbb93daa8cc6", func := "gatherum/gatherumlaw49.CoverPlates", spec := "coverPlates", unfollowed := true, recurses := true, apart := false }
def CoverPlatesSaid : Prop := coverPlatesRow.holds Try.pinned (OpenSpec.ofChange coverPlatesSpec)

/-- ITS FALSE NEIGHBOUR: 'it returns false'. Refute it at one input. -/
def coverPlatesWrong : ChangeSpec := { name := "coverPlates", fn := fun _ => fun
  | [d] => { results := [.lit (.bool false)], args := [d] }
  | _ => none }
def CoverPlatesWrongFalsely : Prop := coverPlatesRow.holds Try.pinned (OpenSpec.ofChange coverPlatesWrong)

/- THE SECOND FORM. 'bulk': how many values and letters a reading holds, each counted each time it is reached (what is shared counts as often as it is met; a slice's spare places count too). A statement '..UptoSaid' is the law's where the arguments, and the package variables that the reading takes, are together of bulk at most 1048576: NARROWER than '..Said'. Prove '..Said' where nothing that the law and all that it calls make is longer than what came in: it says more and counts as full. Else prove '..UptoSaid'. A law counts once. -/
mutual
def uptoBulk {H : Type} : DataW H → Nat
  | .lit (.string bytes) => bytes.length + 1
  | .lit _ => 1
  | .nil => 1
  | .ptr d => uptoBulk d + 1
  | .slice elems spare => uptoBulkAll elems + uptoBulkAll spare + 1
  | .agg parts => uptoBulkAll parts + 1
  | .iface _ d => uptoBulk d + 1
  | .map entries => uptoBulkEntries entries + 1
  | .held _ => 1
def uptoBulkAll {H : Type} : List (DataW H) → Nat
  | [] => 0
  | d :: r => uptoBulk d + uptoBulkAll r
def uptoBulkEntries {H : Type} : List (Lit × DataW H) → Nat
  | [] => 0
  | x :: r => uptoBulkEntry x + uptoBulkEntries r
def uptoBulkEntry {H : Type} : Lit × DataW H → Nat
  | (.string bytes, d) => bytes.length + uptoBulk d + 1
  | (_, d) => uptoBulk d + 1
 end
def uptoSmall : (H : Type) → List (DataW H) → Bool := fun _ ds => decide (uptoBulkAll ds ≤ 1048576)
def OpenSpec.upto (s : _root_.Go.ChangeSpec) : _root_.Go.OpenSpec := { _root_.Go.OpenSpec.ofChange s with cond := some uptoSmall }

/-- 'gatherumlaw03.SpanCuts', WHERE WHAT IT READS IS OF BULK AT MOST 1048576: true; the input reads as it did. -/
def spanCutsUptoRow : OpenClaim := { program := "ytpicoedbkeljoaa", sum := "b1da1831b5938b8cc0fbdc392a19546a5e28d4e79646410eade5bbb93daa8cc6", func := "gatherum/gatherumlaw03.SpanCuts", spec := "spanCuts", recurses := true, apart := false, narrowed := true }
def SpanCutsUptoSaid : Prop := spanCutsUptoRow.holds Try.pinned (OpenSpec.upto spanCutsSpec)

/-- 'gatherumlaw03.SpanLeaves', WHERE WHAT IT READS IS OF BULK AT MOST 1048576: true; the input reads as it did. -/
def spanLeavesUptoRow : OpenClaim := { program := "ytpicoedbkeljoaa", sum := "b1da1831b5938b8cc0fbdc392a19546a5e28d4e79646410eade5bbb93daa8cc6", func := "gatherum/gatherumlaw03.SpanLeaves", spec := "spanLeaves", recurses := true, apart := false, narrowed := true }
def SpanLeavesUptoSaid : Prop := spanLeavesUptoRow.holds Try.pinned (OpenSpec.upto spanLeavesSpec)

/-- 'gatherumlaw03.SpanWithin', WHERE WHAT IT READS IS OF BULK AT MOST 1048576: true; the input reads as it did. -/
def spanWithinUptoRow : OpenClaim := { program := "ytpicoedbkeljoaa", sum := "b1da1831b5938b8cc0fbdc392a19546a5e28d4e79646410eade5bbb93daa8cc6", func := "gatherum/gatherumlaw03.SpanWithin", spec := "spanWithin", recurses := true, apart := false, narrowed := true }
def SpanWithinUptoSaid : Prop := spanWithinUptoRow.holds Try.pinned (OpenSpec.upto spanWithinSpec)

/-- 'gatherumlaw03.SpanTells', WHERE WHAT IT READS IS OF BULK AT MOST 1048576: true; the input reads as it did. -/
def spanTellsUptoRow : OpenClaim := { program := "ytpicoedbkeljoaa", sum := "b1da1831b5938b8cc0fbdc392a19546a5e28d4e79646410eade5bbb93daa8cc6", func := "gatherum/gatherumlaw03.SpanTells", spec := "spanTells", recurses := true, apart := false, narrowed := true }
def SpanTellsUptoSaid : Prop := spanTellsUptoRow.holds Try.pinned (OpenSpec.upto spanTellsSpec)

/-- 'gatherumlaw52.CutsTell', WHERE WHAT IT READS IS OF BULK AT MOST 1048576: true; the input reads as it did. -/
def cutsTellUptoRow : OpenClaim := { program := "ytpicoedbkeljoaa", sum := "b1da1831b5938b8cc0fbdc392a19546a5e28d4e79646410eade5bbb93daa8cc6", func := "gatherum/gatherumlaw52.CutsTell", spec := "cutsTell", unfollowed := true, recurses := true, apart := false, narrowed := true }
def CutsTellUptoSaid : Prop := cutsTellUptoRow.holds Try.pinned (OpenSpec.upto cutsTellSpec)

/-- 'gatherumlaw52.CutsKeep', WHERE WHAT IT READS IS OF BULK AT MOST 1048576: true; the input reads as it did. -/
def cutsKeepUptoRow : OpenClaim := { program := "ytpicoedbkeljoaa", sum := "b1da1831b5938b8cc0fbdc392a19546a5e28d4e79646410eade5bbb93daa8cc6", func := "gatherum/gatherumlaw52.CutsKeep", spec := "cutsKeep", unfollowed := true, recurses := true, apart := false, narrowed := true }
def CutsKeepUptoSaid : Prop := cutsKeepUptoRow.holds Try.pinned (OpenSpec.upto cutsKeepSpec)

/-- 'gatherumlaw49.CoverCounts', WHERE WHAT IT READS IS OF BULK AT MOST 1048576: true; the input reads as it did. -/
def coverCountsUptoRow : OpenClaim := { program := "ytpicoedbkeljoaa", sum := "b1da1831b5938b8cc0fbdc392a19546a5e28d4e79646410eade5bbb93daa8cc6", func := "gatherum/gatherumlaw49.CoverCounts", spec := "coverCounts", unfollowed := true, recurses := true, apart := false, narrowed := true }
def CoverCountsUptoSaid : Prop := coverCountsUptoRow.holds Try.pinned (OpenSpec.upto coverCountsSpec)

/-- 'gatherumlaw49.CoverJoins', WHERE WHAT IT READS IS OF BULK AT MOST 1048576: true; the input reads as it did. -/
def coverJoinsUptoRow : OpenClaim := { program := "ytpicoedbkeljoaa", sum := "b1da1831b5938b8cc0fbdc392a19546a5e28d4e79646410eade5bbb93daa8cc6", func := "gatherum/gatherumlaw49.CoverJoins", spec := "coverJoins", unfollowed := true, recurses := true, apart := false, narrowed := true }
def CoverJoinsUptoSaid : Prop := coverJoinsUptoRow.holds Try.pinned (OpenSpec.upto coverJoinsSpec)

/-- 'gatherumlaw49.CoverPlates', WHERE WHAT IT READS IS OF BULK AT MOST 1048576: true; the input reads as it did. -/
def coverPlatesUptoRow : OpenClaim := { program := "ytpicoedbkeljoaa", sum := "b1da1831b5938b8cc0fbdc392a19546a5e28d4e79646410eade5bbb93daa8cc6", func := "gatherum/gatherumlaw49.CoverPlates", spec := "coverPlates", unfollowed := true, recurses := true, apart := false, narrowed := true }
def CoverPlatesUptoSaid : Prop := coverPlatesUptoRow.holds Try.pinned (OpenSpec.upto coverPlatesSpec)

end Rows
end Go.Proofs.Ytpicoedbkeljoaa
