/- The plain law TurnDoes, over the printed functions: no Go, no memory. -/
import Derived.Test.YtnahjeeochfljaaPTurnDoesx3
import Derived.Test.YtnahjeeochfljaaAid
namespace Go.Proofs.Ytnahjeeochfljaa.PureTurnDoes
open Go.RowKit Go.Proofs.Ytnahjeeochfljaa.PTurnDoes Go.Proofs.YtnahjeeochfljaaW.PrintWords Go.Proofs.YtnahjeeochfljaaW.PrintLast Go.Proofs.YtnahjeeochfljaaW.PrintMore Go.Proofs.Ytnahjeeochfljaa.Aid
set_option linter.unusedVariables false
set_option linter.unusedSimpArgs false

theorem turn_Do_eq (m : Nat) (t x y : Int) (hx : R x) (hy : R y) : turn_Do.f (m + 20) t x y = some (D t x y) := by
  have h4 : t % 4 = t % 8 % 4 := by omega
  rcases eight t with h | h | h | h | h | h | h | h <;> rw [h] at h4 <;>
    simp [turn_Do.f, turn_Mirrors.f, and4, and3, h, h4, turn_Do.j0, turn_Do.l0, D, wl1, wl2, wl3, wnn hx, wnn hy]
theorem tm4 (x : Int) (h : 0 ≤ x) : Int.tmod x 4 = x % 4 := Int.tmod_eq_emod_of_nonneg h
theorem ref_Of_eq (m : Nat) (t : Int) : gatherumref03_Of.f (m + 20) t = some (M t) := by
  rcases eight t with h | h | h | h | h | h | h | h <;>
    simp [gatherumref03_Of.f, and7, h, gatherumref03_Of.j0, gatherumref03_Of.l0, M, wl0, wl1, wl2, wl3, wm1, tm4]
theorem ref_Do_eq (t x y : Int) (hx : R x) (hy : R y) : gatherumref03_Do.f (M t).1 (M t).2.1 (M t).2.2.1 (M t).2.2.2 x y = some (D t x y) := by
  have h1 : wrap64 x = x := R_id hx
  have h2 : wrap64 y = y := R_id hy
  rcases eight t with h | h | h | h | h | h | h | h <;>
    simp [gatherumref03_Do.f, M, D, h, wl0, h1, h2, wrap_wrap, wnn hx, wnn hy]
theorem alive30 : gatherumlaw05_alive.f 30 = some true := by decide +kernel
theorem TurnDoes (a0 : Int) (a1_0 : Int) (a1_1 : Int) (w0 : (Lit.int .i64 a0).wf = true) (w1_0 : (Lit.int .i64 a1_0).wf = true) (w1_1 : (Lit.int .i64 a1_1).wf = true) : ∃ k, gatherumlaw05_TurnDoes.f k a0 a1_0 a1_1 = some true := by
  have hx := R_of w1_0
  have hy := R_of w1_1
  refine ⟨30, ?_⟩
  simp only [gatherumlaw05_TurnDoes.f, alive30, Option.bind_some, if_true, turn_Do_eq 10 _ _ _ hx hy, ref_Of_eq 10, ref_Do_eq _ _ _ hx hy]
  have h2 : a0 % 2 = a0 % 8 % 2 := by omega
  rcases eight a0 with h | h | h | h | h | h | h | h <;> rw [h] at h2 <;>
    simp [turn_Mirrors.f, turn_Swaps.f, and4, and1, h, h2, M, wl0, wl1, wm1]
end Go.Proofs.Ytnahjeeochfljaa.PureTurnDoes
