/- The plain law PlaceDoes, over the printed functions: no Go, no memory. -/
import Derived.Test.YtnahjeeochfljaaPPlaceDoesx7
import Derived.Test.YtnahjeeochfljaaAid
namespace Go.Proofs.Ytnahjeeochfljaa.PurePlaceDoes
open Go.RowKit Go.Proofs.Ytnahjeeochfljaa.PPlaceDoes Go.Proofs.YtnahjeeochfljaaW.PrintWords Go.Proofs.YtnahjeeochfljaaW.PrintLast Go.Proofs.YtnahjeeochfljaaW.PrintMore Go.Proofs.Ytnahjeeochfljaa.Aid
set_option linter.unusedVariables false
set_option linter.unusedSimpArgs false

theorem turn_Do_eq (m : Nat) (t x y : Int) (hx : R x) (hy : R y) : turn_Do.f (m + 20) t x y = some (D t x y) := by
  have h4 : t % 4 = t % 8 % 4 := by omega
  rcases eight t with h | h | h | h | h | h | h | h <;> rw [h] at h4 <;>
    simp [turn_Do.f, turn_Mirrors.f, and4, and3, h, h4, turn_Do.j0, turn_Do.l0, D, w1, w2, w3, wnn hx, wnn hy]
/-- The matrix of a turn. -/
def M (t : Int) : Int × Int × Int × Int :=
  if t % 8 = 0 then (1, 0, 0, 1) else if t % 8 = 1 then (0, 1, -1, 0) else if t % 8 = 2 then (-1, 0, 0, -1) else if t % 8 = 3 then (0, -1, 1, 0)
  else if t % 8 = 4 then (-1, 0, 0, 1) else if t % 8 = 5 then (0, -1, -1, 0) else if t % 8 = 6 then (1, 0, 0, -1) else (0, 1, 1, 0)
theorem tm4 (x : Int) (h : 0 ≤ x) : Int.tmod x 4 = x % 4 := Int.tmod_eq_emod_of_nonneg h
theorem ref_Of_eq (m : Nat) (t : Int) : gatherumref03_Of.f (m + 20) t = some (M t) := by
  rcases eight t with h | h | h | h | h | h | h | h <;>
    simp [gatherumref03_Of.f, and7, h, gatherumref03_Of.j0, gatherumref03_Of.l0, M, w0, w1, w2, w3, wm1, tm4]
theorem ref_Do_eq (t x y : Int) (hx : R x) (hy : R y) : gatherumref03_Do.f (M t).1 (M t).2.1 (M t).2.2.1 (M t).2.2.2 x y = some (D t x y) := by
  have h1 : wrap64 x = x := R_id hx
  have h2 : wrap64 y = y := R_id hy
  rcases eight t with h | h | h | h | h | h | h | h <;>
    simp [gatherumref03_Do.f, M, D, h, w0, h1, h2, wrap_wrap, wnn hx, wnn hy]
theorem place_Do_eq (m : Nat) (t ax ay x y : Int) (hx : R x) (hy : R y) : place_Do.f (m + 20) t ax ay x y = some (wrap64 ((D t x y).1 + ax), wrap64 ((D t x y).2 + ay)) := by
  simp only [place_Do.f, turn_Do_eq m t x y hx hy, Option.bind_some]
theorem ref04_Do_eq (m : Nat) (t ax ay x y : Int) (hx : R x) (hy : R y) : gatherumref04_Do.f (m + 20) t ax ay x y = some (wrap64 ((D t x y).1 + ax), wrap64 ((D t x y).2 + ay)) := by
  simp only [gatherumref04_Do.f, ref_Of_eq m t, Option.bind_some, ref_Do_eq t x y hx hy]
theorem low_eq (a b : Int) : gatherumref04_low.f a b = some (mn a b) := by
  unfold gatherumref04_low.f mn
  by_cases h : a < b
  · rw [if_pos h, if_neg (by omega)]
  · rw [if_neg h]; by_cases h' : b < a
    · rw [if_pos h']
    · rw [if_neg h']; congr 1; omega
theorem high_eq (a b : Int) : gatherumref04_high.f a b = some (mx a b) := by
  unfold gatherumref04_high.f mx
  by_cases h : a > b
  · rw [if_pos h, if_neg (by omega)]
  · rw [if_neg h]; by_cases h' : a < b
    · rw [if_pos h']
    · rw [if_neg h']; congr 1; omega
theorem alive30 : gatherumlaw06_alive.f 30 = some true := by decide +kernel
theorem PlaceDoes (a0_0 : Int) (a0_1 : Int) (a0_2 : Int) (a1_0 : Int) (a1_1 : Int) (a2_0 : Int) (a2_1 : Int) (a2_2 : Int) (a2_3 : Int) (a3 : Int) (w0_0 : (Lit.int .i64 a0_0).wf = true) (w0_1 : (Lit.int .i64 a0_1).wf = true) (w0_2 : (Lit.int .i64 a0_2).wf = true) (w1_0 : (Lit.int .i64 a1_0).wf = true) (w1_1 : (Lit.int .i64 a1_1).wf = true) (w2_0 : (Lit.int .i64 a2_0).wf = true) (w2_1 : (Lit.int .i64 a2_1).wf = true) (w2_2 : (Lit.int .i64 a2_2).wf = true) (w2_3 : (Lit.int .i64 a2_3).wf = true) (w3 : (Lit.int .i64 a3).wf = true) : ∃ k, gatherumlaw06_PlaceDoes.f k a0_0 a0_1 a0_2 a1_0 a1_1 a2_0 a2_1 a2_2 a2_3 a3 = some true := by
  have hx := R_of w1_0
  have hy := R_of w1_1
  refine ⟨30, ?_⟩
  simp only [gatherumlaw06_PlaceDoes.f, alive30, Option.bind_some, if_true, place_Do_eq 10 _ _ _ _ _ hx hy, ref04_Do_eq 10 _ _ _ _ _ hx hy, place_Box.f, gatherumref04_Box.f,
    place_Do_eq 10 _ _ _ _ _ (R_of w2_0) (R_of w2_1), place_Do_eq 10 _ _ _ _ _ (R_of w2_2) (R_of w2_3), ref04_Do_eq 10 _ _ _ _ _ (R_of w2_0) (R_of w2_1), ref04_Do_eq 10 _ _ _ _ _ (R_of w2_2) (R_of w2_3), low_eq, high_eq,
    beq_self_eq_true, Bool.not_true, Bool.or_false, Bool.false_eq_true, if_false]
  simp only [gatherumlaw06_PlaceDoes.j0, Bool.false_eq_true, if_false, place_FlipX.f, place_FlipY.f, place_Move.f, Option.bind_some, place_Do_eq 9 _ _ _ _ _ hx hy]
  have e1 : wrap64 (wrap64 (-a1_0) + a3) = wrap64 (a3 - a1_0) := by rw [wrap_add_l]; congr 1; omega
  have e2 : wrap64 (wrap64 (-a1_1) + a3) = wrap64 (a3 - a1_1) := by rw [wrap_add_l]; congr 1; omega
  simp [D, e1, e2, R_id hx, R_id hy]
end Go.Proofs.Ytnahjeeochfljaa.PurePlaceDoes
