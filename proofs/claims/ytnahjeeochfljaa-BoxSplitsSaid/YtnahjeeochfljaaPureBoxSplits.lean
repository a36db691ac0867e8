/- The plain law BoxSplits, over the printed functions: no Go, no memory. -/
import Derived.Test.YtnahjeeochfljaaPBoxSplitsx5
import Derived.Test.YtnahjeeochfljaaAid
namespace Go.Proofs.Ytnahjeeochfljaa.PureBoxSplits
open Go.RowKit Go.Proofs.Ytnahjeeochfljaa.PBoxSplits Go.Proofs.YtnahjeeochfljaaW.PrintWords Go.Proofs.YtnahjeeochfljaaW.PrintLast Go.Proofs.YtnahjeeochfljaaW.PrintMore Go.Proofs.Ytnahjeeochfljaa.Aid
set_option linter.unusedVariables false
set_option linter.unusedSimpArgs false

/-! ### rectangles -/
def emp (a b c d : Int) : Prop := a ≥ c ∨ b ≥ d
instance (a b c d : Int) : Decidable (emp a b c d) := by unfold emp; infer_instance
theorem mx_max (a b : Int) : mx a b = max a b := by unfold mx; omega
theorem mn_min (a b : Int) : mn a b = min a b := by unfold mn; omega
theorem Empty_eq (a b c d : Int) : box_Empty.f a b c d = some (decide (emp a b c d)) := by
  unfold box_Empty.f emp
  by_cases h : a ≥ c <;> simp [h]
theorem refEmpty_eq (a b c d : Int) : gatherumref04_Empty.f a b c d = some (decide (emp a b c d)) := by
  unfold gatherumref04_Empty.f emp
  by_cases h : a ≥ c <;> simp [h]
theorem alive30 : gatherumlaw04_alive.f 30 = some true := by decide +kernel
theorem BoxSplits (a0_0 : Int) (a0_1 : Int) (a0_2 : Int) (a0_3 : Int) (a1 : Bool) (a2 : Int) (w0_0 : (Lit.int .i64 a0_0).wf = true) (w0_1 : (Lit.int .i64 a0_1).wf = true) (w0_2 : (Lit.int .i64 a0_2).wf = true) (w0_3 : (Lit.int .i64 a0_3).wf = true) (w2 : (Lit.int .i64 a2).wf = true) : ∃ k, gatherumlaw04_BoxSplits.f k a0_0 a0_1 a0_2 a0_3 a1 a2 = some true := by
  refine ⟨30, ?_⟩
  simp only [gatherumlaw04_BoxSplits.f, alive30, Option.bind_some, if_true, box_Split.f, Empty_eq]
  by_cases he : emp a0_0 a0_1 a0_2 a0_3
  · cases a1 <;> simp [he, gatherumlaw04_BoxSplits.j0, refEmpty_eq]
  · have he' := he
    unfold emp at he'
    cases a1
    · by_cases h1 : a0_1 < a2
      · by_cases h2 : a2 < a0_3
        · have h3 : ¬ a2 ≤ a0_1 := by omega
          have h4 : ¬ a0_3 ≤ a2 := by omega
          simp [he, box_Split.j0, gatherumlaw04_BoxSplits.j0, gatherumlaw04_BoxSplits.j1, refEmpty_eq, h1, h2, h3, h4, rd_T27]
        · have h3 : ¬ a2 ≤ a0_1 := by omega
          have h4 : a0_3 ≤ a2 := by omega
          simp [he, box_Split.j0, gatherumlaw04_BoxSplits.j0, gatherumlaw04_BoxSplits.j1, refEmpty_eq, h1, h2, h3, h4, rd_T27]
      · have h3 : a2 ≤ a0_1 := by omega
        simp [he, box_Split.j0, gatherumlaw04_BoxSplits.j0, gatherumlaw04_BoxSplits.j1, refEmpty_eq, h1, h3, rd_T27]
    · by_cases h1 : a0_0 < a2
      · by_cases h2 : a2 < a0_2
        · have h3 : ¬ a2 ≤ a0_0 := by omega
          have h4 : ¬ a0_2 ≤ a2 := by omega
          simp [he, box_Split.j0, gatherumlaw04_BoxSplits.j0, gatherumlaw04_BoxSplits.j1, refEmpty_eq, h1, h2, h3, h4, rd_T27]
        · have h3 : ¬ a2 ≤ a0_0 := by omega
          have h4 : a0_2 ≤ a2 := by omega
          simp [he, box_Split.j0, gatherumlaw04_BoxSplits.j0, gatherumlaw04_BoxSplits.j1, refEmpty_eq, h1, h2, h3, h4, rd_T27]
      · have h3 : a2 ≤ a0_0 := by omega
        simp [he, box_Split.j0, gatherumlaw04_BoxSplits.j0, gatherumlaw04_BoxSplits.j1, refEmpty_eq, h1, h3, rd_T27]
end Go.Proofs.Ytnahjeeochfljaa.PureBoxSplits
