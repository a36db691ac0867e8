/- The plain law PlaceGroup, over the printed functions: no Go, no memory. -/
import Derived.Test.YtnahjeeochfljaaPPlaceGroupx6
import Derived.Test.YtnahjeeochfljaaAid
namespace Go.Proofs.Ytnahjeeochfljaa.PurePlaceGroup
open Go.RowKit Go.Proofs.Ytnahjeeochfljaa.PPlaceGroup Go.Proofs.YtnahjeeochfljaaW.PrintWords Go.Proofs.YtnahjeeochfljaaW.PrintLast Go.Proofs.YtnahjeeochfljaaW.PrintMore Go.Proofs.Ytnahjeeochfljaa.Aid
set_option linter.unusedVariables false
set_option linter.unusedSimpArgs false

theorem turn_Do_eq (m : Nat) (t x y : Int) (hx : R x) (hy : R y) : turn_Do.f (m + 20) t x y = some (D t x y) := by
  have h4 : t % 4 = t % 8 % 4 := by omega
  rcases eight t with h | h | h | h | h | h | h | h <;> rw [h] at h4 <;>
    simp [turn_Do.f, turn_Mirrors.f, and4, and3, h, h4, turn_Do.j0, turn_Do.l0, D, wl1, wl2, wl3, wnn hx, wnn hy]
theorem turn_Then_eq (a b : Int) : turn_Then.f a b = some (th a b) := by
  unfold turn_Then.f turn_Mirrors.f th
  simp only [Option.bind_some, xor4, and3, wrap_m4, or34 _ _ (c04 _)]
  simp only [and4]
  by_cases h : b % 8 < 4 <;> simp [h]
theorem turn_Back_eq (a : Int) : turn_Back.f a = some (bk a) := by
  unfold turn_Back.f turn_Mirrors.f bk
  simp only [Option.bind_some, and4, and3, and7, wrap_m4]
  by_cases h : a % 8 < 4 <;> simp [h]
theorem tm4 (x : Int) (h : 0 ≤ x) : Int.tmod x 4 = x % 4 := Int.tmod_eq_emod_of_nonneg h
theorem ref_Of_eq (m : Nat) (t : Int) : gatherumref03_Of.f (m + 20) t = some (M t) := by
  rcases eight t with h | h | h | h | h | h | h | h <;>
    simp [gatherumref03_Of.f, and7, h, gatherumref03_Of.j0, gatherumref03_Of.l0, M, wl0, wl1, wl2, wl3, wm1, tm4]
theorem ref_Do_eq (t x y : Int) (hx : R x) (hy : R y) : gatherumref03_Do.f (M t).1 (M t).2.1 (M t).2.2.1 (M t).2.2.2 x y = some (D t x y) := by
  have h1 : wrap64 x = x := R_id hx
  have h2 : wrap64 y = y := R_id hy
  rcases eight t with h | h | h | h | h | h | h | h <;>
    simp [gatherumref03_Do.f, M, D, h, wl0, h1, h2, wrap_wrap, wnn hx, wnn hy]
theorem ref_Then_eq (a b : Int) : gatherumref03_Then.f (M a).1 (M a).2.1 (M a).2.2.1 (M a).2.2.2 (M b).1 (M b).2.1 (M b).2.2.1 (M b).2.2.2 = some (M (th a b)) := by
  obtain ⟨x, hx⟩ := fin8 a
  obtain ⟨y, hy⟩ := fin8 b
  rw [M_red a, M_red b, th_red a b, hx, hy]
  have key : ∀ x y : Fin 8, gatherumref03_Then.f (M x.1).1 (M x.1).2.1 (M x.1).2.2.1 (M x.1).2.2.2 (M y.1).1 (M y.1).2.1 (M y.1).2.2.1 (M y.1).2.2.2 = some (M (th x.1 y.1)) := by decide +kernel
  exact key x y
theorem ref_Turn_eq30 (a : Int) : gatherumref03_Turn.f 30 (M a).1 (M a).2.1 (M a).2.2.1 (M a).2.2.2 = some (a % 8) := by
  obtain ⟨x, hx⟩ := fin8 a
  rw [M_red a, hx]
  have key : ∀ x : Fin 8, gatherumref03_Turn.f 30 (M x.1).1 (M x.1).2.1 (M x.1).2.2.1 (M x.1).2.2.2 = some (x.1 : Int) := by decide +kernel
  exact key x
theorem ref_Turn_eq (m : Nat) (a : Int) : gatherumref03_Turn.f (m + 30) (M a).1 (M a).2.1 (M a).2.2.1 (M a).2.2.2 = some (a % 8) :=
  at_rounds (g := fun k => gatherumref03_Turn.f k (M a).1 (M a).2.1 (M a).2.2.1 (M a).2.2.2) (fun k => gatherumref03_Turn.mono _ _ _ _ k) (Nat.le_add_left 30 m) (ref_Turn_eq30 a)
theorem place_Do_eq (m : Nat) (t ax ay x y : Int) (hx : R x) (hy : R y) : place_Do.f (m + 20) t ax ay x y = some (wrap64 ((D t x y).1 + ax), wrap64 ((D t x y).2 + ay)) := by
  simp only [place_Do.f, turn_Do_eq m t x y hx hy, Option.bind_some]
theorem place_Then_eq (m : Nat) (t x y t' x' y' : Int) (hx : R x) (hy : R y) : place_Then.f (m + 20) t x y t' x' y' = some (th t t', wrap64 ((D t' x y).1 + x'), wrap64 ((D t' x y).2 + y')) := by
  simp only [place_Then.f, place_Do_eq m _ _ _ _ _ hx hy, turn_Then_eq, Option.bind_some]
theorem place_Back_eq (m : Nat) (t x y : Int) (hx : R x) (hy : R y) : place_Back.f (m + 20) t x y = some (bk t, wrap64 (-(D (bk t) x y).1), wrap64 (-(D (bk t) x y).2)) := by
  simp only [place_Back.f, turn_Back_eq, turn_Do_eq m _ _ _ hx hy, Option.bind_some]
theorem ref04_Do_eq (m : Nat) (t ax ay x y : Int) (hx : R x) (hy : R y) : gatherumref04_Do.f (m + 20) t ax ay x y = some (wrap64 ((D t x y).1 + ax), wrap64 ((D t x y).2 + ay)) := by
  simp only [gatherumref04_Do.f, ref_Of_eq m t, Option.bind_some, ref_Do_eq t x y hx hy]
theorem ref04_Then_eq (m : Nat) (t x y t' x' y' : Int) (hx : R x) (hy : R y) : gatherumref04_Then.f (m + 30) t x y t' x' y' = some (th t t', wrap64 ((D t' x y).1 + x'), wrap64 ((D t' x y).2 + y')) := by
  have hb := th_bounds t t'
  have hm : th t t' % 8 = th t t' := by omega
  simp only [gatherumref04_Then.f, ref04_Do_eq (m + 10) _ _ _ _ _ hx hy, ref_Of_eq (m + 10), ref_Then_eq, ref_Turn_eq m, Option.bind_some, hm]
theorem alive40 : gatherumlaw06_alive.f 40 = some true := by decide +kernel
theorem PlaceGroup (a0_0 : Int) (a0_1 : Int) (a0_2 : Int) (a1_0 : Int) (a1_1 : Int) (a1_2 : Int) (a2_0 : Int) (a2_1 : Int) (w0_0 : (Lit.int .i64 a0_0).wf = true) (w0_1 : (Lit.int .i64 a0_1).wf = true) (w0_2 : (Lit.int .i64 a0_2).wf = true) (w1_0 : (Lit.int .i64 a1_0).wf = true) (w1_1 : (Lit.int .i64 a1_1).wf = true) (w1_2 : (Lit.int .i64 a1_2).wf = true) (w2_0 : (Lit.int .i64 a2_0).wf = true) (w2_1 : (Lit.int .i64 a2_1).wf = true) : ∃ k, gatherumlaw06_PlaceGroup.f k a0_0 a0_1 a0_2 a1_0 a1_1 a1_2 a2_0 a2_1 = some true := by
  have ax := R_of w0_1
  have ay := R_of w0_2
  have bx := R_of w1_1
  have b_y := R_of w1_2
  have px := R_of w2_0
  have py := R_of w2_1
  have hk := bk_bounds a0_0
  obtain ⟨t1, t2, _, _⟩ := th_back a0_0
  obtain ⟨d1, d2⟩ := D_R (t := a1_0) ax ay
  obtain ⟨q1, q2⟩ := D_R (t := bk a0_0) ax ay
  obtain ⟨p1, p2⟩ := D_R (t := a0_0) px py
  refine ⟨40, ?_⟩
  have e1 : D (bk a0_0) (wrap64 ((D a0_0 a2_0 a2_1).1 + a0_1)) (wrap64 ((D a0_0 a2_0 a2_1).2 + a0_2)) = (wrap64 (a2_0 + (D (bk a0_0) a0_1 a0_2).1), wrap64 (a2_1 + (D (bk a0_0) a0_1 a0_2).2)) := by
    rw [D_add, D_comp _ _ _ _ px py, t1, D_zero]
  have e2 : D a0_0 (wrap64 (-(D (bk a0_0) a0_1 a0_2).1)) (wrap64 (-(D (bk a0_0) a0_1 a0_2).2)) = (wrap64 (-a0_1), wrap64 (-a0_2)) := by
    rw [D_neg _ _ _ q1 q2, D_comp _ _ _ _ ax ay, t2, D_zero]
  have e3 : D a1_0 (wrap64 ((D a0_0 a2_0 a2_1).1 + a0_1)) (wrap64 ((D a0_0 a2_0 a2_1).2 + a0_2)) = (wrap64 ((D (th a0_0 a1_0) a2_0 a2_1).1 + (D a1_0 a0_1 a0_2).1), wrap64 ((D (th a0_0 a1_0) a2_0 a2_1).2 + (D a1_0 a0_1 a0_2).2)) := by
    rw [D_add, D_comp _ _ _ _ px py]
  have f1 : ∀ u x b : Int, wrap64 (u + wrap64 (x + b)) = wrap64 (wrap64 (u + x) + b) := fun u x b => by rw [wrap_add_r, wrap_add_l]; congr 1; omega
  have f2 : ∀ u : Int, wrap64 (u + wrap64 (-u)) = 0 := fun u => by rw [wrap_add_r, show u + -u = 0 by omega]; exact wl0
  have f3 : ∀ u : Int, wrap64 (wrap64 (-u) + u) = 0 := fun u => by rw [wrap_add_l, show -u + u = 0 by omega]; exact wl0
  simp only [gatherumlaw06_PlaceGroup.f, alive40, Option.bind_some, if_true, place_Then_eq 20 _ _ _ _ _ _ ax ay, place_Back_eq 20 _ _ _ ax ay, ref04_Then_eq 10 _ _ _ _ _ _ ax ay, beq_self_eq_true, Bool.not_true, Bool.or_false, Bool.false_eq_true, if_false,
    place_Do_eq 20 _ _ _ _ _ px py, place_Do_eq 20 a1_0 _ _ _ _ (R_wrap _) (R_wrap _), e3, f1]
  simp only [gatherumlaw06_PlaceGroup.j0, Bool.false_eq_true, if_false, place_Do_eq 19 _ _ _ _ _ px py, Option.bind_some, place_Do_eq 19 (bk a0_0) _ _ _ _ (R_wrap _) (R_wrap _), e1, w_sub_self, R_id px, R_id py, beq_self_eq_true, Bool.and_self, if_true,
    place_Then_eq 19 _ _ _ _ _ _ ax ay, place_Then_eq 19 (bk a0_0) _ _ _ _ _ (R_wrap _) (R_wrap _), e2, f2, f3, t1, t2, hk.1, hk.2, decide_true, ge_iff_le]
end Go.Proofs.Ytnahjeeochfljaa.PurePlaceGroup
