/- The plain law TurnGroup, over the printed functions: no Go, no memory. -/
import Derived.Test.YtnahjeeochfljaaPTurnGroupx3
import Derived.Test.YtnahjeeochfljaaAid
namespace Go.Proofs.Ytnahjeeochfljaa.PureTurnGroup
open Go.RowKit Go.Proofs.Ytnahjeeochfljaa.PTurnGroup Go.Proofs.YtnahjeeochfljaaW.PrintWords Go.Proofs.YtnahjeeochfljaaW.PrintLast Go.Proofs.YtnahjeeochfljaaW.PrintMore Go.Proofs.Ytnahjeeochfljaa.Aid
set_option linter.unusedVariables false
set_option linter.unusedSimpArgs false
theorem turn_Then_eq (a b : Int) : turn_Then.f a b = some (th a b) := by
  unfold turn_Then.f turn_Mirrors.f th
  simp only [Option.bind_some, xor4, and3, wrap_m4, or34 _ _ (c04 _)]
  simp only [and4]
  by_cases h : b % 8 < 4 <;> simp [h]
theorem turn_Back_eq (a : Int) : turn_Back.f a = some (bk a) := by
  unfold turn_Back.f turn_Mirrors.f bk
  simp only [Option.bind_some, and4, and3, and7, wrap_m4]
  by_cases h : a % 8 < 4 <;> simp [h]
theorem tm4 (x : Int) (h : 0 ≤ x) : Int.tmod x 4 = x % 4 := Int.tmod_eq_emod_of_nonneg h
theorem ref_Of_eq (m : Nat) (t : Int) : gatherumref03_Of.f (m + 20) t = some (M t) := by
  rcases eight t with h | h | h | h | h | h | h | h <;>
    simp [gatherumref03_Of.f, and7, h, gatherumref03_Of.j0, gatherumref03_Of.l0, M, wl0, wl1, wl2, wl3, wm1, tm4]
theorem ref_Do_eq (t x y : Int) (hx : R x) (hy : R y) : gatherumref03_Do.f (M t).1 (M t).2.1 (M t).2.2.1 (M t).2.2.2 x y = some (D t x y) := by
  have h1 : wrap64 x = x := R_id hx
  have h2 : wrap64 y = y := R_id hy
  rcases eight t with h | h | h | h | h | h | h | h <;>
    simp [gatherumref03_Do.f, M, D, h, wl0, h1, h2, wrap_wrap, wnn hx, wnn hy]
theorem ref_Then_eq (a b : Int) : gatherumref03_Then.f (M a).1 (M a).2.1 (M a).2.2.1 (M a).2.2.2 (M b).1 (M b).2.1 (M b).2.2.1 (M b).2.2.2 = some (M (th a b)) := by
  obtain ⟨x, hx⟩ := fin8 a
  obtain ⟨y, hy⟩ := fin8 b
  rw [M_red a, M_red b, th_red a b, hx, hy]
  have key : ∀ x y : Fin 8, gatherumref03_Then.f (M x.1).1 (M x.1).2.1 (M x.1).2.2.1 (M x.1).2.2.2 (M y.1).1 (M y.1).2.1 (M y.1).2.2.1 (M y.1).2.2.2 = some (M (th x.1 y.1)) := by decide +kernel
  exact key x y
theorem ref_Turn_eq30 (a : Int) : gatherumref03_Turn.f 30 (M a).1 (M a).2.1 (M a).2.2.1 (M a).2.2.2 = some (a % 8) := by
  obtain ⟨x, hx⟩ := fin8 a
  rw [M_red a, hx]
  have key : ∀ x : Fin 8, gatherumref03_Turn.f 30 (M x.1).1 (M x.1).2.1 (M x.1).2.2.1 (M x.1).2.2.2 = some (x.1 : Int) := by decide +kernel
  exact key x
theorem ref_Turn_eq (m : Nat) (a : Int) : gatherumref03_Turn.f (m + 30) (M a).1 (M a).2.1 (M a).2.2.1 (M a).2.2.2 = some (a % 8) :=
  at_rounds (g := fun k => gatherumref03_Turn.f k (M a).1 (M a).2.1 (M a).2.2.1 (M a).2.2.2) (fun k => gatherumref03_Turn.mono _ _ _ _ k) (Nat.le_add_left 30 m) (ref_Turn_eq30 a)
theorem alive40 : gatherumlaw05_alive.f 40 = some true := by decide +kernel
theorem TurnGroup' (a0 : Int) (a1 : Int) (a2 : Int) : ∃ k, gatherumlaw05_TurnGroup.f k a0 a1 a2 = some true := by
  refine ⟨40, ?_⟩
  simp only [gatherumlaw05_TurnGroup.f, alive40, Option.bind_some, if_true, turn_Then_eq, ref_Of_eq 20, ref_Then_eq, ref_Turn_eq 10]
  have hb := th_bounds a0 a1
  have hm : th a0 a1 % 8 = th a0 a1 := by omega
  rw [hm, if_pos rfl, th_assoc]
  obtain ⟨h1, h2, h3, h4⟩ := th_back a0
  have hk := bk_bounds a0
  simp [gatherumlaw05_TurnGroup.j0, turn_Back_eq, turn_Then_eq, h1, h2, h3, h4, hk, and7]
end Go.Proofs.Ytnahjeeochfljaa.PureTurnGroup
namespace Go.Proofs.Ytnahjeeochfljaa.Pure
open Go.Proofs.Ytnahjeeochfljaa.PTurnGroup
theorem TurnGroup : gatherumlaw05_TurnGroup.Pure := fun a b c _ _ _ => PureTurnGroup.TurnGroup' a b c
end Go.Proofs.Ytnahjeeochfljaa.Pure
