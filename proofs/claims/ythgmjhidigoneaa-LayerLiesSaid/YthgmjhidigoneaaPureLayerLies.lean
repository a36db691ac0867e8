/- The plain law LayerLies, over the printed functions: no Go, no memory. -/
import Derived.Test.YthgmjhidigoneaaPLayerLiesx11
import Derived.Test.YthgmjhidigoneaaAid
namespace Go.Proofs.Ythgmjhidigoneaa.PureLayerLies
open Go.RowKit Go.Proofs.Ythgmjhidigoneaa.PLayerLies Go.Proofs.YthgmjhidigoneaaW.PrintWords Go.Proofs.YthgmjhidigoneaaW.PrintLast Go.Proofs.YthgmjhidigoneaaW.PrintMore Go.Proofs.Ythgmjhidigoneaa.Aid
set_option linter.unusedVariables false
set_option linter.unusedSimpArgs false

theorem turn_Do_eq (m : Nat) (t x y : Int) (hx : R x) (hy : R y) : turn_Do.f (m + 20) t x y = some (D t x y) := by
  have h4 : t % 4 = t % 8 % 4 := by omega
  rcases eight t with h | h | h | h | h | h | h | h <;> rw [h] at h4 <;>
    simp [turn_Do.f, turn_Mirrors.f, and4, and3, h, h4, turn_Do.j0, turn_Do.l0, D, wl1, wl2, wl3, wnn hx, wnn hy]
theorem turn_Then_eq (a b : Int) : turn_Then.f a b = some (th a b) := by
  unfold turn_Then.f turn_Mirrors.f th
  simp only [Option.bind_some, xor4, and3, wrap_m4, or34 _ _ (c04 _)]
  simp only [and4]
  by_cases h : b % 8 < 4 <;> simp [h]
theorem tm4 (x : Int) (h : 0 ≤ x) : Int.tmod x 4 = x % 4 := Int.tmod_eq_emod_of_nonneg h
theorem ref_Of_eq (m : Nat) (t : Int) : gatherumref03_Of.f (m + 20) t = some (M t) := by
  rcases eight t with h | h | h | h | h | h | h | h <;>
    simp [gatherumref03_Of.f, and7, h, gatherumref03_Of.j0, gatherumref03_Of.l0, M, wl0, wl1, wl2, wl3, wm1, tm4]
theorem ref_Do_eq (t x y : Int) (hx : R x) (hy : R y) : gatherumref03_Do.f (M t).1 (M t).2.1 (M t).2.2.1 (M t).2.2.2 x y = some (D t x y) := by
  have h1 : wrap64 x = x := R_id hx
  have h2 : wrap64 y = y := R_id hy
  rcases eight t with h | h | h | h | h | h | h | h <;>
    simp [gatherumref03_Do.f, M, D, h, wl0, h1, h2, wrap_wrap, wnn hx, wnn hy]
theorem ref_Then_eq (a b : Int) : gatherumref03_Then.f (M a).1 (M a).2.1 (M a).2.2.1 (M a).2.2.2 (M b).1 (M b).2.1 (M b).2.2.1 (M b).2.2.2 = some (M (th a b)) := by
  obtain ⟨x, hx⟩ := fin8 a
  obtain ⟨y, hy⟩ := fin8 b
  rw [M_red a, M_red b, th_red a b, hx, hy]
  have key : ∀ x y : Fin 8, gatherumref03_Then.f (M x.1).1 (M x.1).2.1 (M x.1).2.2.1 (M x.1).2.2.2 (M y.1).1 (M y.1).2.1 (M y.1).2.2.1 (M y.1).2.2.2 = some (M (th x.1 y.1)) := by decide +kernel
  exact key x y
theorem ref_Turn_eq30 (a : Int) : gatherumref03_Turn.f 30 (M a).1 (M a).2.1 (M a).2.2.1 (M a).2.2.2 = some (a % 8) := by
  obtain ⟨x, hx⟩ := fin8 a
  rw [M_red a, hx]
  have key : ∀ x : Fin 8, gatherumref03_Turn.f 30 (M x.1).1 (M x.1).2.1 (M x.1).2.2.1 (M x.1).2.2.2 = some (x.1 : Int) := by decide +kernel
  exact key x
theorem ref_Turn_eq (m : Nat) (a : Int) : gatherumref03_Turn.f (m + 30) (M a).1 (M a).2.1 (M a).2.2.1 (M a).2.2.2 = some (a % 8) :=
  at_rounds (g := fun k => gatherumref03_Turn.f k (M a).1 (M a).2.1 (M a).2.2.1 (M a).2.2.2) (fun k => gatherumref03_Turn.mono _ _ _ _ k) (Nat.le_add_left 30 m) (ref_Turn_eq30 a)
theorem place_Do_eq (m : Nat) (t ax ay x y : Int) (hx : R x) (hy : R y) : place_Do.f (m + 20) t ax ay x y = some (wrap64 ((D t x y).1 + ax), wrap64 ((D t x y).2 + ay)) := by
  simp only [place_Do.f, turn_Do_eq m t x y hx hy, Option.bind_some]
theorem place_Then_eq (m : Nat) (t x y t' x' y' : Int) (hx : R x) (hy : R y) : place_Then.f (m + 20) t x y t' x' y' = some (th t t', wrap64 ((D t' x y).1 + x'), wrap64 ((D t' x y).2 + y')) := by
  simp only [place_Then.f, place_Do_eq m _ _ _ _ _ hx hy, turn_Then_eq, Option.bind_some]
theorem ref04_Do_eq (m : Nat) (t ax ay x y : Int) (hx : R x) (hy : R y) : gatherumref04_Do.f (m + 20) t ax ay x y = some (wrap64 ((D t x y).1 + ax), wrap64 ((D t x y).2 + ay)) := by
  simp only [gatherumref04_Do.f, ref_Of_eq m t, Option.bind_some, ref_Do_eq t x y hx hy]
theorem ref04_Then_eq (m : Nat) (t x y t' x' y' : Int) (hx : R x) (hy : R y) : gatherumref04_Then.f (m + 30) t x y t' x' y' = some (th t t', wrap64 ((D t' x y).1 + x'), wrap64 ((D t' x y).2 + y')) := by
  have hb := th_bounds t t'
  have hm : th t t' % 8 = th t t' := by omega
  simp only [gatherumref04_Then.f, ref04_Do_eq (m + 10) _ _ _ _ _ hx hy, ref_Of_eq (m + 10), ref_Then_eq, ref_Turn_eq m, Option.bind_some, hm]
theorem low_eq (a b : Int) : gatherumref04_low.f a b = some (mn a b) := by
  unfold gatherumref04_low.f mn
  by_cases h : a < b
  · rw [if_pos h, if_neg (by omega)]
  · rw [if_neg h]; by_cases h' : b < a
    · rw [if_pos h']
    · rw [if_neg h']; congr 1; omega
theorem high_eq (a b : Int) : gatherumref04_high.f a b = some (mx a b) := by
  unfold gatherumref04_high.f mx
  by_cases h : a > b
  · rw [if_pos h, if_neg (by omega)]
  · rw [if_neg h]; by_cases h' : a < b
    · rw [if_pos h']
    · rw [if_neg h']; congr 1; omega
/-! ### where a rectangle is brought -/
def bx (t ax ay x0 y0 x1 y1 : Int) : Int × Int × Int × Int :=
  (min (wrap64 ((D t x0 y0).1 + ax)) (wrap64 ((D t x1 y1).1 + ax)), min (wrap64 ((D t x0 y0).2 + ay)) (wrap64 ((D t x1 y1).2 + ay)), max (wrap64 ((D t x0 y0).1 + ax)) (wrap64 ((D t x1 y1).1 + ax)), max (wrap64 ((D t x0 y0).2 + ay)) (wrap64 ((D t x1 y1).2 + ay)))
theorem mx_max' (a b : Int) : mx a b = max a b := by unfold mx; omega
theorem mn_min' (a b : Int) : mn a b = min a b := by unfold mn; omega
theorem place_Box_eq (m : Nat) (t ax ay x0 y0 x1 y1 : Int) (h0 : R x0) (h1 : R y0) (h2 : R x1) (h3 : R y1) : place_Box.f (m + 20) t ax ay x0 y0 x1 y1 = some (bx t ax ay x0 y0 x1 y1) := by
  simp only [place_Box.f, place_Do_eq m _ _ _ _ _ h0 h1, place_Do_eq m _ _ _ _ _ h2 h3, Option.bind_some, mx_max', mn_min', bx]
theorem ref04_Box_eq (m : Nat) (t ax ay x0 y0 x1 y1 : Int) (h0 : R x0) (h1 : R y0) (h2 : R x1) (h3 : R y1) : gatherumref04_Box.f (m + 20) t ax ay x0 y0 x1 y1 = some (bx t ax ay x0 y0 x1 y1) := by
  simp only [gatherumref04_Box.f, ref04_Do_eq m _ _ _ _ _ h0 h1, ref04_Do_eq m _ _ _ _ _ h2 h3, low_eq, high_eq, Option.bind_some, mx_max', mn_min', bx]
theorem alive40 : gatherumlaw38_alive.f 40 = some true := by decide +kernel
theorem LayerLies (a0_0 : Int) (a0_1 : Int) (a0_2 : Int) (a0_3 : Int) (a0_4 : Int) (a0_5 : Int) (a0_6 : Int) (a1_0 : Int) (a1_1 : Int) (a1_2 : Int) (w0_0 : (Lit.int .i64 a0_0).wf = true) (w0_1 : (Lit.int .i64 a0_1).wf = true) (w0_2 : (Lit.int .i64 a0_2).wf = true) (w0_3 : (Lit.int .i64 a0_3).wf = true) (w0_4 : (Lit.int .i64 a0_4).wf = true) (w0_5 : (Lit.int .i64 a0_5).wf = true) (w0_6 : (Lit.int .i64 a0_6).wf = true) (w1_0 : (Lit.int .i64 a1_0).wf = true) (w1_1 : (Lit.int .i64 a1_1).wf = true) (w1_2 : (Lit.int .i64 a1_2).wf = true) : ∃ k, gatherumlaw38_LayerLies.f k a0_0 a0_1 a0_2 a0_3 a0_4 a0_5 a0_6 a1_0 a1_1 a1_2 = some true := by
  have x0 := R_of w0_0
  have y0 := R_of w0_1
  have x1 := R_of w0_2
  have y1 := R_of w0_3
  have ax := R_of w0_5
  have ay := R_of w0_6
  refine ⟨40, ?_⟩
  simp only [gatherumlaw38_LayerLies.f, alive40, Option.bind_some, if_true, layer_Lay.f, layer_Of.f, layer_Lies.f, gatherumref38_Lies.f, place_Then_eq 20 _ _ _ _ _ _ ax ay, ref04_Then_eq 10 _ _ _ _ _ _ ax ay,
    place_Box_eq 20 _ _ _ _ _ _ _ x0 y0 x1 y1, ref04_Box_eq 20 _ _ _ _ _ _ _ x0 y0 x1 y1, beq_self_eq_true, Bool.and_self, layer_Up.f, turn_Mirrors.f]
  by_cases h : a0_4 % 8 < 4 <;> simp [and4, h]
end Go.Proofs.Ythgmjhidigoneaa.PureLayerLies
