/- The plain law BoxMeets, over the printed functions: no Go, no memory. -/
import Derived.Test.YtnahjeeochfljaaPBoxMeetsx7
import Derived.Test.YtnahjeeochfljaaAid
namespace Go.Proofs.Ytnahjeeochfljaa.PureBoxMeets
open Go.RowKit Go.Proofs.Ytnahjeeochfljaa.PBoxMeets Go.Proofs.YtnahjeeochfljaaW.PrintWords Go.Proofs.YtnahjeeochfljaaW.PrintLast Go.Proofs.YtnahjeeochfljaaW.PrintMore Go.Proofs.Ytnahjeeochfljaa.Aid
set_option linter.unusedVariables false
set_option linter.unusedSimpArgs false

/-! ### rectangles -/
def emp (a b c d : Int) : Prop := a ≥ c ∨ b ≥ d
instance (a b c d : Int) : Decidable (emp a b c d) := by unfold emp; infer_instance
theorem mx_max (a b : Int) : mx a b = max a b := by unfold mx; omega
theorem mn_min (a b : Int) : mn a b = min a b := by unfold mn; omega
theorem Empty_eq (a b c d : Int) : box_Empty.f a b c d = some (decide (emp a b c d)) := by
  unfold box_Empty.f emp
  by_cases h : a ≥ c <;> simp [h]
/-- What two rectangles have both. -/
def mt (a b c d a' b' c' d' : Int) : Int × Int × Int × Int :=
  if emp (max a a') (max b b') (min c c') (min d d') then (0, 0, 0, 0) else (max a a', max b b', min c c', min d d')
theorem Meet_eq (a b c d a' b' c' d' : Int) : box_Meet.f a b c d a' b' c' d' = some (mt a b c d a' b' c' d') := by
  simp only [box_Meet.f, Empty_eq, Option.bind_some, mx_max, mn_min, mt]
  by_cases h : emp (max a a') (max b b') (min c c') (min d d') <;> simp [h]
theorem mt_comm (a b c d a' b' c' d' : Int) : mt a' b' c' d' a b c d = mt a b c d a' b' c' d' := by
  unfold mt
  rw [Int.max_comm a' a, Int.max_comm b' b, Int.min_comm c' c, Int.min_comm d' d]
def wit (a b c d a' b' c' d' : Int) : Prop := emp a b c d ∨ (a' ≤ a ∧ c ≤ c' ∧ b' ≤ b ∧ d ≤ d')
instance (a b c d a' b' c' d' : Int) : Decidable (wit a b c d a' b' c' d') := by unfold wit; infer_instance
theorem Within_eq (a b c d a' b' c' d' : Int) : box_Within.f a b c d a' b' c' d' = some (decide (wit a b c d a' b' c' d')) := by
  simp only [box_Within.f, Empty_eq, Option.bind_some, wit]
  by_cases h : emp a b c d <;> by_cases h1 : a' ≤ a <;> by_cases h2 : c ≤ c' <;> by_cases h3 : b' ≤ b <;> simp [h, h1, h2, h3]
theorem refEmpty_eq (a b c d : Int) : gatherumref04_Empty.f a b c d = some (decide (emp a b c d)) := by
  unfold gatherumref04_Empty.f emp
  by_cases h : a ≥ c <;> simp [h]
theorem low_eq (a b : Int) : gatherumref04_low.f a b = some (mn a b) := by
  unfold gatherumref04_low.f mn
  by_cases h : a < b
  · rw [if_pos h, if_neg (by omega)]
  · rw [if_neg h]; by_cases h' : b < a
    · rw [if_pos h']
    · rw [if_neg h']; congr 1; omega
theorem high_eq (a b : Int) : gatherumref04_high.f a b = some (mx a b) := by
  unfold gatherumref04_high.f mx
  by_cases h : a > b
  · rw [if_pos h, if_neg (by omega)]
  · rw [if_neg h]; by_cases h' : a < b
    · rw [if_pos h']
    · rw [if_neg h']; congr 1; omega
theorem refMeet_eq (a b c d a' b' c' d' : Int) : gatherumref04_Meet.f a b c d a' b' c' d' = some (mt a b c d a' b' c' d') := by
  simp only [gatherumref04_Meet.f, low_eq, high_eq, refEmpty_eq, Option.bind_some, mx_max, mn_min, mt]
  by_cases h : emp (max a a') (max b b') (min c c') (min d d') <;> simp [h]
theorem refWithin_eq (a b c d a' b' c' d' : Int) : gatherumref04_Within.f a b c d a' b' c' d' = some (decide (wit a b c d a' b' c' d')) := by
  simp only [gatherumref04_Within.f, refEmpty_eq, Option.bind_some, wit]
  by_cases h : emp a b c d <;> by_cases h1 : a' ≤ a <;> by_cases h2 : c ≤ c' <;> by_cases h3 : b' ≤ b <;> simp [h, h1, h2, h3]
theorem alive30 : gatherumlaw04_alive.f 30 = some true := by decide +kernel
theorem mt_within (a b c d a' b' c' d' : Int) : wit (mt a b c d a' b' c' d').1 (mt a b c d a' b' c' d').2.1 (mt a b c d a' b' c' d').2.2.1 (mt a b c d a' b' c' d').2.2.2 a b c d := by
  unfold mt
  by_cases h : emp (max a a') (max b b') (min c c') (min d d')
  · rw [if_pos h]; left; unfold emp; simp
  · rw [if_neg h]; right; refine ⟨?_, ?_, ?_, ?_⟩ <;> (show _ ≤ _) <;> dsimp only <;> omega
theorem BoxMeets (a0_0 : Int) (a0_1 : Int) (a0_2 : Int) (a0_3 : Int) (a1_0 : Int) (a1_1 : Int) (a1_2 : Int) (a1_3 : Int) (w0_0 : (Lit.int .i64 a0_0).wf = true) (w0_1 : (Lit.int .i64 a0_1).wf = true) (w0_2 : (Lit.int .i64 a0_2).wf = true) (w0_3 : (Lit.int .i64 a0_3).wf = true) (w1_0 : (Lit.int .i64 a1_0).wf = true) (w1_1 : (Lit.int .i64 a1_1).wf = true) (w1_2 : (Lit.int .i64 a1_2).wf = true) (w1_3 : (Lit.int .i64 a1_3).wf = true) : ∃ k, gatherumlaw04_BoxMeets.f k a0_0 a0_1 a0_2 a0_3 a1_0 a1_1 a1_2 a1_3 = some true := by
  refine ⟨30, ?_⟩
  have h1 := mt_within a0_0 a0_1 a0_2 a0_3 a1_0 a1_1 a1_2 a1_3
  have h2 := mt_within a1_0 a1_1 a1_2 a1_3 a0_0 a0_1 a0_2 a0_3
  rw [mt_comm] at h2
  simp only [gatherumlaw04_BoxMeets.f, alive30, Option.bind_some, if_true, Meet_eq, refMeet_eq, mt_comm a0_0 a0_1 a0_2 a0_3 a1_0 a1_1 a1_2 a1_3, box_Apart.f, Empty_eq, refEmpty_eq,
    beq_self_eq_true, Bool.not_true, Bool.or_false, Bool.false_eq_true, if_false, bne_self_eq_false, gatherumlaw04_BoxMeets.j0, Within_eq, refWithin_eq, h1, h2, decide_true, box_Same.f]
end Go.Proofs.Ytnahjeeochfljaa.PureBoxMeets
