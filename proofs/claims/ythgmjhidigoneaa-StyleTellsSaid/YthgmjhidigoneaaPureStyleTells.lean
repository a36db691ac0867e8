/- The plain law StyleTells, over the functions that the executor tells: no Go, no memory. -/
import Derived.Test.YthgmjhidigoneaaXStyleTells
import Derived.Test.YthgmjhidigoneaaAid
namespace Go.Proofs.Ythgmjhidigoneaa.PureStyleTells
open Go Go.RowKit Go.Proofs.Ythgmjhidigoneaa.Sy Go.Proofs.Ythgmjhidigoneaa.XStyleTells Go.Proofs.Ythgmjhidigoneaa.Aid
set_option linter.unusedVariables false
set_option linter.unusedSimpArgs false

/-! ### words of the plain laws -/
def emp (a b c d : Int) : Prop := c ≤ a ∨ d ≤ b
instance (a b c d : Int) : Decidable (emp a b c d) := by unfold emp; infer_instance
/-- A rectangle, brought by a place. -/
def bxm (t ax ay a b c d : Int) : Int × Int × Int × Int :=
  (min (wrap64 ((D t a b).1 + ax)) (wrap64 ((D t c d).1 + ax)), min (wrap64 ((D t a b).2 + ay)) (wrap64 ((D t c d).2 + ay)), max (wrap64 ((D t a b).1 + ax)) (wrap64 ((D t c d).1 + ax)), max (wrap64 ((D t a b).2 + ay)) (wrap64 ((D t c d).2 + ay)))
/-- How many plates a sheet has; how it is turned over; where may be printed; where a block may be. -/
def plt (s : Int) : Int := if s = 1 ∨ s = 2 then 2 else if s = 3 ∨ s = 4 then 1 else 0
def flp (s w h : Int) : Int × Int × Int := if plt s = 0 then (0, 0, 0) else if s = 2 ∨ s = 4 then (6, 0, h) else (4, w, 0)
def are (s w h side g t : Int) : Int × Int × Int × Int := if plt s = 0 then (0, 0, 0, 0) else if s = 2 ∨ s = 4 then (side, max g t, wrap64 (w - side), wrap64 (h - max g t)) else (side, g, wrap64 (w - side), wrap64 (h - t))
def reg (s w h : Int) (a : Int × Int × Int × Int) : Int × Int × Int × Int := if s = 3 then (a.1, a.2.1, min a.2.2.1 (w / 2), a.2.2.2) else if s = 4 then (a.1, a.2.1, a.2.2.1, min a.2.2.2 (h / 2)) else a
theorem plt_zero (s : Int) : plt s = 0 ↔ s < 1 ∨ s > 4 := by
  unfold plt
  by_cases h1 : s = 1 ∨ s = 2
  · rw [if_pos h1]; omega
  · rw [if_neg h1]; by_cases h2 : s = 3 ∨ s = 4
    · rw [if_pos h2]; omega
    · rw [if_neg h2]; omega
theorem min_R {a b : Int} (ha : R a) (hb : R b) : R (min a b) := by unfold R at *; omega
theorem max_R {a b : Int} (ha : R a) (hb : R b) : R (max a b) := by unfold R at *; omega
theorem are_R {s w h side g t : Int} (h1 : R side) (h2 : R g) (h3 : R t) : R (are s w h side g t).1 ∧ R (are s w h side g t).2.1 ∧ R (are s w h side g t).2.2.1 ∧ R (are s w h side g t).2.2.2 := by
  unfold are
  have h0 : R 0 := by unfold R; omega
  split
  · exact ⟨h0, h0, h0, h0⟩
  · split
    · exact ⟨h1, max_R h2 h3, R_wrap _, R_wrap _⟩
    · exact ⟨h1, h2, R_wrap _, R_wrap _⟩
theorem mni_eq (a b : Int) : mni a b = min a b := by unfold mni; split <;> omega
theorem mxi_eq (a b : Int) : mxi a b = max a b := by unfold mxi; split <;> omega
theorem qPlates (s : Int) : style_Plates.f s = some (plt s) := by
  unfold style_Plates.f plt
  by_cases h1 : s = 1
  · simp [h1]
  · by_cases h2 : s = 2
    · simp [h2]
    · by_cases h3 : s = 3
      · simp [h3]
      · by_cases h4 : s = 4 <;> simp [h1, h2, h3, h4]
theorem qacross (s : Int) : style_across.f s = some (decide (s = 2 ∨ s = 4)) := by
  unfold style_across.f
  by_cases h : s = 2 <;> by_cases h' : s = 4 <;> simp [h, h']
theorem qFlip (j0 : ByteArray) (j1 j2 j3 j4 j5 j6 j7 j8 j9 j10 j11 j12 j13 : Int) (j14 j15 : Ov) (j16 j17 j18 j19 j20 j21 j22 j23 j24 j25 j26 j27 j28 j29 j30 j31 j32 : Int) : style_Flip.f j0 j1 j2 j3 j4 j5 j6 j7 j8 j9 j10 j11 j12 j13 j14 j15 j16 j17 j18 j19 j20 j21 j22 j23 j24 j25 j26 j27 j28 j29 j30 j31 j32 = some (flp j16 j17 j18) := by
  unfold style_Flip.f
  simp only [qPlates, qacross, Option.bind_some, place_FlipY.f, place_FlipX.f, flp]
  by_cases h : plt j16 = 0
  · simp [h]
  · by_cases h' : j16 = 2 ∨ j16 = 4 <;> simp [h, h']
theorem q03_Do (t x y : Int) (hx : R x) (hy : R y) : gatherumref03_Do.f (M t).1 (M t).2.1 (M t).2.2.1 (M t).2.2.2 x y = some (D t x y) := by
  have h1 : wrap64 x = x := R_id hx
  have h2 : wrap64 y = y := R_id hy
  rcases eight t with h | h | h | h | h | h | h | h <;>
    simp [gatherumref03_Do.f, M, D, h, wl0, h1, h2, wrap_wrap, wnn hx, wnn hy]
theorem tm4 (x : Int) (h : 0 ≤ x) : Int.tmod x 4 = x % 4 := Int.tmod_eq_emod_of_nonneg h
theorem q03_Of (K : Nat) (t : Int) : gatherumref03_Of.f (K + 50) t = some (M t) := by
  rcases eight t with h | h | h | h | h | h | h | h <;>
    simp [gatherumref03_Of.f, and7, h, gatherumref03_Of.l0, gatherumref03_Of.l1, M, wl0, wl1, wl2, wl3, wm1, tm4]
theorem q04_Do (K : Nat) (t ax ay x y : Int) (hx : R x) (hy : R y) : gatherumref04_Do.f (K + 50) t ax ay x y = some (wrap64 ((D t x y).1 + ax), wrap64 ((D t x y).2 + ay)) := by
  simp only [gatherumref04_Do.f, q03_Of K t, Option.bind_some, q03_Do t x y hx hy]
theorem qArea (j0 : ByteArray) (j1 j2 j3 j4 j5 j6 j7 j8 j9 j10 j11 j12 j13 : Int) (j14 j15 : Ov) (j16 j17 j18 j19 j20 j21 j22 j23 j24 j25 j26 j27 j28 j29 j30 j31 j32 : Int) : style_Area.f j0 j1 j2 j3 j4 j5 j6 j7 j8 j9 j10 j11 j12 j13 j14 j15 j16 j17 j18 j19 j20 j21 j22 j23 j24 j25 j26 j27 j28 j29 j30 j31 j32 = some (are j16 j17 j18 j19 j20 j21) := by
  unfold style_Area.f are
  simp only [qPlates, qacross, Option.bind_some]
  have e : mxi j20 j21 = max j20 j21 := by unfold mxi; split <;> omega
  by_cases h : plt j16 = 0
  · simp [h]
  · by_cases h' : j16 = 2 ∨ j16 = 4 <;> simp [h, h', e]
theorem q20Across (j0 : ByteArray) (j1 j2 j3 j4 j5 j6 j7 j8 j9 j10 j11 j12 j13 : Int) (j14 j15 : Ov) (j16 j17 j18 j19 j20 j21 j22 j23 j24 j25 j26 j27 j28 j29 j30 j31 j32 : Int) : gatherumref20_Across.f j0 j1 j2 j3 j4 j5 j6 j7 j8 j9 j10 j11 j12 j13 j14 j15 j16 j17 j18 j19 j20 j21 j22 j23 j24 j25 j26 j27 j28 j29 j30 j31 j32 = some (decide (j16 = 2 ∨ j16 = 4)) := by
  unfold gatherumref20_Across.f
  by_cases h : j16 = 2 <;> by_cases h' : j16 = 4 <;> simp [h, h']
theorem q20Flip (j0 : ByteArray) (j1 j2 j3 j4 j5 j6 j7 j8 j9 j10 j11 j12 j13 : Int) (j14 j15 : Ov) (j16 j17 j18 j19 j20 j21 j22 j23 j24 j25 j26 j27 j28 j29 j30 j31 j32 : Int) : gatherumref20_Flip.f j0 j1 j2 j3 j4 j5 j6 j7 j8 j9 j10 j11 j12 j13 j14 j15 j16 j17 j18 j19 j20 j21 j22 j23 j24 j25 j26 j27 j28 j29 j30 j31 j32 = some (flp j16 j17 j18) := by
  have hp := plt_zero j16
  unfold gatherumref20_Flip.f flp
  by_cases h1 : j16 < 1
  · rw [if_pos (hp.mpr (Or.inl h1)), if_pos (by simpa using h1)]
  · rw [if_neg (by simpa using h1)]
    by_cases h2 : 4 < j16
    · rw [if_pos (hp.mpr (Or.inr h2)), if_pos (by simpa using h2)]
    · rw [if_neg (by simpa using h2), if_neg (show ¬ plt j16 = 0 by rw [hp]; omega)]
      simp only [q20Across, Option.bind_some]
      by_cases h3 : j16 = 2 ∨ j16 = 4 <;> simp [h3]
theorem q20Area (j0 : ByteArray) (j1 j2 j3 j4 j5 j6 j7 j8 j9 j10 j11 j12 j13 : Int) (j14 j15 : Ov) (j16 j17 j18 j19 j20 j21 j22 j23 j24 j25 j26 j27 j28 j29 j30 j31 j32 : Int) : gatherumref20_Area.f j0 j1 j2 j3 j4 j5 j6 j7 j8 j9 j10 j11 j12 j13 j14 j15 j16 j17 j18 j19 j20 j21 j22 j23 j24 j25 j26 j27 j28 j29 j30 j31 j32 = some (are j16 j17 j18 j19 j20 j21) := by
  have hp := plt_zero j16
  unfold gatherumref20_Area.f are
  by_cases h1 : j16 < 1
  · rw [if_pos (hp.mpr (Or.inl h1)), if_pos (by simpa using h1)]
  · rw [if_neg (by simpa using h1)]
    by_cases h2 : 4 < j16
    · rw [if_pos (hp.mpr (Or.inr h2)), if_pos (by simpa using h2)]
    · rw [if_neg (by simpa using h2), if_neg (show ¬ plt j16 = 0 by rw [hp]; omega)]
      simp only [q20Across, Option.bind_some]
      by_cases h3 : j16 = 2 ∨ j16 = 4
      · by_cases h4 : j20 < j21
        · rw [show max j20 j21 = j21 by omega]; simp [h3, h4]
        · rw [show max j20 j21 = j20 by omega]; simp [h3, h4]
      · simp [h3]
theorem qRegion (j0 : ByteArray) (j1 j2 j3 j4 j5 j6 j7 j8 j9 j10 j11 j12 j13 : Int) (j14 j15 : Ov) (j16 j17 j18 j19 j20 j21 j22 j23 j24 j25 j26 j27 j28 j29 j30 j31 j32 : Int) : style_Region.f j0 j1 j2 j3 j4 j5 j6 j7 j8 j9 j10 j11 j12 j13 j14 j15 j16 j17 j18 j19 j20 j21 j22 j23 j24 j25 j26 j27 j28 j29 j30 j31 j32 = some (reg j16 j17 j18 (are j16 j17 j18 j19 j20 j21)) := by
  unfold style_Region.f
  simp only [qArea, Option.bind_some, reg, mni_eq]
  by_cases h : j16 = 3
  · simp [h]
  · by_cases h' : j16 = 4 <;> simp [h, h']
theorem q20Region (j0 : ByteArray) (j1 j2 j3 j4 j5 j6 j7 j8 j9 j10 j11 j12 j13 : Int) (j14 j15 : Ov) (j16 j17 j18 j19 j20 j21 j22 j23 j24 j25 j26 j27 j28 j29 j30 j31 j32 : Int) : gatherumref20_Region.f j0 j1 j2 j3 j4 j5 j6 j7 j8 j9 j10 j11 j12 j13 j14 j15 j16 j17 j18 j19 j20 j21 j22 j23 j24 j25 j26 j27 j28 j29 j30 j31 j32 = some (reg j16 j17 j18 (are j16 j17 j18 j19 j20 j21)) := by
  unfold gatherumref20_Region.f
  simp only [q20Area, Option.bind_some, gatherumref20_half.f]
  generalize are j16 j17 j18 j19 j20 j21 = a
  obtain ⟨a0, a1, a2, a3⟩ := a
  by_cases h : j16 = 3
  · subst h
    by_cases h1 : j17 / 2 < a2
    · have e : min a2 (j17 / 2) = j17 / 2 := by omega
      simp [h1, reg, e]
    · have e : min a2 (j17 / 2) = a2 := by omega
      simp [h1, reg, e]
  · by_cases h' : j16 = 4
    · subst h'
      by_cases h1 : j18 / 2 < a3
      · have e : min a3 (j18 / 2) = j18 / 2 := by omega
        simp [h1, reg, e]
      · have e : min a3 (j18 / 2) = a3 := by omega
        simp [h1, reg, e]
    · simp [h, h', reg]
theorem alive (K : Nat) : gatherumlaw21_alive.f (K + 50) = some true := by
  unfold gatherumlaw21_alive.f gatherumlaw21_alive.fo
  simp only [qPlates, qFlip, Option.bind_some, show plt 3 = 1 by decide, show flp 3 100 900000 = (4, 100, 0) by decide, q04_Do K 4 100 0 30 0 (by unfold R; omega) (by unfold R; omega)]
  decide +kernel
theorem StyleTells (a0_0 : ByteArray) (a0_1 : Int) (a0_2 : Int) (a0_3 : Int) (a0_4 : Int) (a0_5 : Int) (a0_6 : Int) (a0_7 : Int) (a0_8 : Int) (a0_9 : Int) (a0_10 : Int) (a0_11 : Int) (a0_12 : Int) (a0_13 : Int) (a0_14 : Ov) (a0_15 : Ov) (a0_16 : Int) (a0_17 : Int) (a0_18 : Int) (a0_19 : Int) (a0_20 : Int) (a0_21 : Int) (a0_22 : Int) (a0_23 : Int) (a0_24 : Int) (a0_25 : Int) (a0_26 : Int) (a0_27 : Int) (a0_28 : Int) (a0_29 : Int) (a0_30 : Int) (a0_31 : Int) (a0_32 : Int) (w0_0 : a0_0.size ≤ maxLen) (w0_1 : (Lit.int .i64 a0_1).wf = true) (w0_2 : (Lit.int .i64 a0_2).wf = true) (w0_3 : (Lit.int .i64 a0_3).wf = true) (w0_4 : (Lit.int .i64 a0_4).wf = true) (w0_5 : (Lit.int .i64 a0_5).wf = true) (w0_6 : (Lit.int .i64 a0_6).wf = true) (w0_7 : (Lit.int .i64 a0_7).wf = true) (w0_8 : (Lit.int .i64 a0_8).wf = true) (w0_9 : (Lit.int .i64 a0_9).wf = true) (w0_10 : (Lit.int .i64 a0_10).wf = true) (w0_11 : (Lit.int .i64 a0_11).wf = true) (w0_12 : (Lit.int .i64 a0_12).wf = true) (w0_13 : (Lit.int .i64 a0_13).wf = true) (w0_16 : (Lit.int .i64 a0_16).wf = true) (w0_17 : (Lit.int .i64 a0_17).wf = true) (w0_18 : (Lit.int .i64 a0_18).wf = true) (w0_19 : (Lit.int .i64 a0_19).wf = true) (w0_20 : (Lit.int .i64 a0_20).wf = true) (w0_21 : (Lit.int .i64 a0_21).wf = true) (w0_22 : (Lit.int .i64 a0_22).wf = true) (w0_23 : (Lit.int .i64 a0_23).wf = true) (w0_24 : (Lit.int .i64 a0_24).wf = true) (w0_25 : (Lit.int .i64 a0_25).wf = true) (w0_26 : (Lit.int .i64 a0_26).wf = true) (w0_27 : (Lit.int .i64 a0_27).wf = true) (w0_28 : (Lit.int .i64 a0_28).wf = true) (w0_29 : (Lit.int .i64 a0_29).wf = true) (w0_30 : (Lit.int .i64 a0_30).wf = true) (w0_31 : (Lit.int .i64 a0_31).wf = true) (w0_32 : (Lit.int .i64 a0_32).wf = true) : ∃ K : Nat, gatherumlaw21_StyleTells.f K a0_0 a0_1 a0_2 a0_3 a0_4 a0_5 a0_6 a0_7 a0_8 a0_9 a0_10 a0_11 a0_12 a0_13 a0_14 a0_15 a0_16 a0_17 a0_18 a0_19 a0_20 a0_21 a0_22 a0_23 a0_24 a0_25 a0_26 a0_27 a0_28 a0_29 a0_30 a0_31 a0_32 = some true := by
  refine ⟨50, ?_⟩
  unfold gatherumlaw21_StyleTells.f
  simp only [alive 0, Option.bind_some, Bool.not_true, Bool.false_eq_true, if_false, qFlip, qArea, q20Flip, q20Area, qRegion, q20Region, qPlates, beq_self_eq_true, Bool.and_self, if_true]
  by_cases h1 : 1 ≤ a0_16
  · rw [if_pos (by simpa using h1)]
    by_cases h2 : a0_16 ≤ 4
    · rw [if_pos (by simpa using h2)]
      have hc : a0_16 = 1 ∨ a0_16 = 2 ∨ a0_16 = 3 ∨ a0_16 = 4 := by omega
      have e : plt a0_16 = wrap64 (2 - wrap64 (Int.tdiv (wrap64 (a0_16 - 1)) 2)) := by
        rcases hc with rfl | rfl | rfl | rfl <;> decide +kernel
      rw [if_pos (by simpa using e)]
    · rw [if_neg (by simpa using h2)]
      have e : plt a0_16 = 0 := (plt_zero a0_16).mpr (by omega)
      rw [if_pos (by simpa using e)]
  · rw [if_neg (by simpa using h1)]
    have e : plt a0_16 = 0 := (plt_zero a0_16).mpr (by omega)
    rw [if_pos (by simpa using e)]
end Go.Proofs.Ythgmjhidigoneaa.PureStyleTells
