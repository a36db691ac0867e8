/- The plain law PlaceMatrix, over the functions that the executor tells: no Go, no memory. -/
import Derived.Test.YtnahjeeochfljaaXPlaceMatrix
import Derived.Test.YtnahjeeochfljaaAid
namespace Go.Proofs.Ytnahjeeochfljaa.PurePlaceMatrix
open Go Go.RowKit Go.Proofs.Ytnahjeeochfljaa.Sy Go.Proofs.Ytnahjeeochfljaa.XPlaceMatrix Go.Proofs.Ytnahjeeochfljaa.Aid
set_option linter.unusedVariables false
set_option linter.unusedSimpArgs false

set_option maxRecDepth 100000
/-! ### words of the plain laws -/
def emp (a b c d : Int) : Prop := c ≤ a ∨ d ≤ b
instance (a b c d : Int) : Decidable (emp a b c d) := by unfold emp; infer_instance
/-- A rectangle, brought by a place. -/
def bxm (t ax ay a b c d : Int) : Int × Int × Int × Int :=
  (min (wrap64 ((D t a b).1 + ax)) (wrap64 ((D t c d).1 + ax)), min (wrap64 ((D t a b).2 + ay)) (wrap64 ((D t c d).2 + ay)), max (wrap64 ((D t a b).1 + ax)) (wrap64 ((D t c d).1 + ax)), max (wrap64 ((D t a b).2 + ay)) (wrap64 ((D t c d).2 + ay)))
/-- How many plates a sheet has; how it is turned over; where may be printed; where a block may be. -/
def plt (s : Int) : Int := if s = 1 ∨ s = 2 then 2 else if s = 3 ∨ s = 4 then 1 else 0
def flp (s w h : Int) : Int × Int × Int := if plt s = 0 then (0, 0, 0) else if s = 2 ∨ s = 4 then (6, 0, h) else (4, w, 0)
def are (s w h side g t : Int) : Int × Int × Int × Int := if plt s = 0 then (0, 0, 0, 0) else if s = 2 ∨ s = 4 then (side, max g t, wrap64 (w - side), wrap64 (h - max g t)) else (side, g, wrap64 (w - side), wrap64 (h - t))
def reg (s w h : Int) (a : Int × Int × Int × Int) : Int × Int × Int × Int := if s = 3 then (a.1, a.2.1, min a.2.2.1 (w / 2), a.2.2.2) else if s = 4 then (a.1, a.2.1, a.2.2.1, min a.2.2.2 (h / 2)) else a
theorem plt_zero (s : Int) : plt s = 0 ↔ s < 1 ∨ s > 4 := by
  unfold plt
  by_cases h1 : s = 1 ∨ s = 2
  · rw [if_pos h1]; omega
  · rw [if_neg h1]; by_cases h2 : s = 3 ∨ s = 4
    · rw [if_pos h2]; omega
    · rw [if_neg h2]; omega
theorem min_R {a b : Int} (ha : R a) (hb : R b) : R (min a b) := by unfold R at *; omega
theorem max_R {a b : Int} (ha : R a) (hb : R b) : R (max a b) := by unfold R at *; omega
theorem are_R {s w h side g t : Int} (h1 : R side) (h2 : R g) (h3 : R t) : R (are s w h side g t).1 ∧ R (are s w h side g t).2.1 ∧ R (are s w h side g t).2.2.1 ∧ R (are s w h side g t).2.2.2 := by
  unfold are
  have h0 : R 0 := by unfold R; omega
  split
  · exact ⟨h0, h0, h0, h0⟩
  · split
    · exact ⟨h1, max_R h2 h3, R_wrap _, R_wrap _⟩
    · exact ⟨h1, h2, R_wrap _, R_wrap _⟩
theorem mni_eq (a b : Int) : mni a b = min a b := by unfold mni; split <;> omega
theorem mxi_eq (a b : Int) : mxi a b = max a b := by unfold mxi; split <;> omega
/-- A panel's size. -/
def psz (a b c x y z : Int) : Int × Int := (wrap64 (wrap64 (c + a) + b), wrap64 (wrap64 (z + x) + y))
theorem qTurnDo (K : Nat) (t x y : Int) (hx : R x) (hy : R y) : turn_Do.f (K + 50) t x y = some (D t x y) := by
  have h4 : t % 4 = t % 8 % 4 := by omega
  rcases eight t with h | h | h | h | h | h | h | h <;> rw [h] at h4 <;>
    simp [turn_Do.f, turn_Mirrors.f, and4, and3, h, h4, turn_Do.l0, turn_Do.l1, D, wl1, wl2, wl3, wnn hx, wnn hy]
theorem qPlaceDo (K : Nat) (t ax ay x y : Int) (hx : R x) (hy : R y) : place_Do.f (K + 50) t ax ay x y = some (wrap64 ((D t x y).1 + ax), wrap64 ((D t x y).2 + ay)) := by
  simp only [place_Do.f, qTurnDo K _ _ _ hx hy, Option.bind_some]
theorem tm4 (x : Int) (h : 0 ≤ x) : Int.tmod x 4 = x % 4 := Int.tmod_eq_emod_of_nonneg h
theorem q03_Of (K : Nat) (t : Int) : gatherumref03_Of.f (K + 50) t = some (M t) := by
  rcases eight t with h | h | h | h | h | h | h | h <;>
    simp [gatherumref03_Of.f, and7, h, gatherumref03_Of.l0, gatherumref03_Of.l1, M, wl0, wl1, wl2, wl3, wm1, tm4]
theorem q03Turn (K : Nat) (a : Int) : gatherumref03_Turn.f (K + 50) (M a).1 (M a).2.1 (M a).2.2.1 (M a).2.2.2 = some (a % 8) := by
  have e1 : wrap64 (1 + 1) = 2 := wl2
  have e2 : wrap64 (2 + 1) = 3 := wl3
  have e3 : wrap64 (3 + 1) = 4 := by decide +kernel
  have e4 : wrap64 (4 + 1) = 5 := by decide +kernel
  have e5 : wrap64 (5 + 1) = 6 := by decide +kernel
  have e6 : wrap64 (6 + 1) = 7 := by decide +kernel
  rcases eight a with h | h | h | h | h | h | h | h <;>
    simp [gatherumref03_Turn.f, gatherumref03_Turn.l0, q03_Of K, M, h, wl1, e1, e2, e3, e4, e5, e6, show wrap64 2 = 2 from wl2, show wrap64 3 = 3 from wl3, show wrap64 4 = 4 from e3, show wrap64 5 = 5 from e4, show wrap64 6 = 6 from e5, show wrap64 7 = 7 from e6]
theorem R01 : R 0 ∧ R 1 := by unfold R; omega
theorem D_M (t : Int) : (D t 1 0).1 = (M t).1 ∧ (D t 1 0).2 = (M t).2.1 ∧ (D t 0 1).1 = (M t).2.2.1 ∧ (D t 0 1).2 = (M t).2.2.2 := by
  rcases eight t with h | h | h | h | h | h | h | h <;> simp [D, M, h, wl0, wl1, wm1]
theorem qMatrix (K : Nat) (t x y : Int) : place_Matrix.f (K + 50) t x y = some ((M t).1, (M t).2.1, (M t).2.2.1, (M t).2.2.2, x, y) := by
  simp only [place_Matrix.f, qTurnDo K _ _ _ R01.1 R01.2, qTurnDo K _ _ _ R01.2 R01.1, Option.bind_some, (D_M t).1, (D_M t).2.1, (D_M t).2.2.1, (D_M t).2.2.2]
/-- A place comes back from its matrix just if a turn does. -/
theorem qOfLoop (K : Nat) (a b c d x y : Int) : ∀ (k : Nat) (i : Int), (∃ r, gatherumref03_Turn.l0 (K + 50) a b c d k i = some r ∧ (r = -1 ∨ (i ≤ r ∧ r ≤ 7)) ∧ place_Of.l0 (K + 50) a b c d x y k i = some (if 0 ≤ r then (r, x, y, true) else (0, 0, 0, false))) ∨ i < 0 ∨ 8 < i ∨ k ≤ 8 - i := by
  intro k
  induction k with
  | zero => intro i; right; omega
  | succ k ih =>
    intro i
    by_cases hi : i < 0
    · exact Or.inr (Or.inl hi)
    by_cases hi' : 8 < i
    · exact Or.inr (Or.inr (Or.inl hi'))
    rw [gatherumref03_Turn.l0, place_Of.l0]
    by_cases h8 : i < 8
    · rw [if_pos (by simpa using h8), if_pos (by simpa using h8)]
      simp only [q03_Of K, qMatrix K, Option.bind_some, beq_self_eq_true, Bool.and_true]
      by_cases hm : ((M i).1 == a && ((M i).2.1 == b && ((M i).2.2.1 == c && (M i).2.2.2 == d))) = true
      · rw [if_pos hm, if_pos hm]
        exact Or.inl ⟨i, rfl, Or.inr ⟨Int.le_refl _, by omega⟩, by rw [if_pos (by omega)]⟩
      · rw [if_neg hm, if_neg hm, wrap_id (by omega) (by omega)]
        rcases ih (i + 1) with ⟨r, h1, h2, h3⟩ | h | h | h
        · exact Or.inl ⟨r, h1, by omega, h3⟩
        · omega
        · omega
        · right; right; right; omega
    · rw [if_neg (by simpa using h8), if_neg (by simpa using h8)]
      exact Or.inl ⟨-1, rfl, Or.inl rfl, by rw [if_neg (by omega)]⟩
theorem qOf (K : Nat) (a b c d x y : Int) : ∃ r, gatherumref03_Turn.f (K + 50) a b c d = some r ∧ (r = -1 ∨ (0 ≤ r ∧ r ≤ 7)) ∧ place_Of.f (K + 50) a b c d x y = some (if 0 ≤ r then (r, x, y, true) else (0, 0, 0, false)) := by
  rcases qOfLoop K a b c d x y (K + 50) 0 with h | h | h | h
  · exact h
  · omega
  · omega
  · omega
theorem alive : gatherumlaw06_alive.f 50 = some true := by decide +kernel
theorem M_do (t x y : Int) : wrap64 (wrap64 (wrap64 ((M t).1 * x) + wrap64 ((M t).2.2.1 * y))) = wrap64 (D t x y).1 ∧ wrap64 (wrap64 (wrap64 ((M t).2.1 * x) + wrap64 ((M t).2.2.2 * y))) = wrap64 (D t x y).2 := by
  rcases eight t with h | h | h | h | h | h | h | h <;> simp [D, M, h, wl0, wrap_wrap]
theorem M_do' (t x y z : Int) : wrap64 (wrap64 (wrap64 ((M t).1 * x) + wrap64 ((M t).2.2.1 * y)) + z) = wrap64 ((D t x y).1 + z) ∧ wrap64 (wrap64 (wrap64 ((M t).2.1 * x) + wrap64 ((M t).2.2.2 * y)) + z) = wrap64 ((D t x y).2 + z) := by
  have h := M_do t x y
  constructor
  · rw [← wrap_add_l, h.1, wrap_add_l]
  · rw [← wrap_add_l, h.2, wrap_add_l]
theorem PlaceMatrix (a0_0 : Int) (a0_1 : Int) (a0_2 : Int) (a1_0 : Int) (a1_1 : Int) (a1_2 : Int) (a1_3 : Int) (a1_4 : Int) (a1_5 : Int) (a2_0 : Int) (a2_1 : Int) (w0_0 : (Lit.int .i64 a0_0).wf = true) (w0_1 : (Lit.int .i64 a0_1).wf = true) (w0_2 : (Lit.int .i64 a0_2).wf = true) (w1_0 : (Lit.int .i64 a1_0).wf = true) (w1_1 : (Lit.int .i64 a1_1).wf = true) (w1_2 : (Lit.int .i64 a1_2).wf = true) (w1_3 : (Lit.int .i64 a1_3).wf = true) (w1_4 : (Lit.int .i64 a1_4).wf = true) (w1_5 : (Lit.int .i64 a1_5).wf = true) (w2_0 : (Lit.int .i64 a2_0).wf = true) (w2_1 : (Lit.int .i64 a2_1).wf = true) : ∃ K : Nat, gatherumlaw06_PlaceMatrix.f K a0_0 a0_1 a0_2 a1_0 a1_1 a1_2 a1_3 a1_4 a1_5 a2_0 a2_1 = some true := by
  refine ⟨50, ?_⟩
  have hx := R_of w2_0
  have hy := R_of w2_1
  unfold gatherumlaw06_PlaceMatrix.f
  obtain ⟨r, t1, hr, o1⟩ := qOf 0 a1_0 a1_1 a1_2 a1_3 a1_4 a1_5
  obtain ⟨r', t2, hr', o2⟩ := qOf 0 (M a0_0).1 (M a0_0).2.1 (M a0_0).2.2.1 (M a0_0).2.2.2 a0_1 a0_2
  have e := q03Turn 0 a0_0
  simp only [Nat.zero_add] at t1 o1 t2 o2 e
  rw [e] at t2
  cases t2
  rw [if_pos (show 0 ≤ a0_0 % 8 by omega)] at o2
  have hm := qMatrix 0 a0_0 a0_1 a0_2
  have hd := qPlaceDo 0 a0_0 a0_1 a0_2 a2_0 a2_1 hx hy
  simp only [Nat.zero_add] at hm hd
  simp only [alive, Option.bind_some, Bool.not_true, Bool.false_eq_true, if_false, hm, o1, o2, t1, hd, (M_do' a0_0 a2_0 a2_1 _).1, (M_do' a0_0 a2_0 a2_1 _).2, beq_self_eq_true, Bool.and_self, if_true, and7]
  by_cases h : 0 ≤ r
  · simp [h]
  · simp [h]
end Go.Proofs.Ytnahjeeochfljaa.PurePlaceMatrix
