/- The plain law KnifePanels, over the functions that the executor tells: no Go, no memory. -/
import Derived.Test.YtbliieckbdacnaaXKnifePanels
import Derived.Test.YtbliieckbdacnaaAid
namespace Go.Proofs.Ytbliieckbdacnaa.PureKnifePanels
open Go Go.RowKit Go.Proofs.Ytbliieckbdacnaa.Sy Go.Proofs.Ytbliieckbdacnaa.XKnifePanels Go.Proofs.Ytbliieckbdacnaa.Aid
set_option linter.unusedVariables false
set_option linter.unusedSimpArgs false

set_option maxRecDepth 100000
/-! ### words of the plain laws -/
def emp (a b c d : Int) : Prop := c ≤ a ∨ d ≤ b
instance (a b c d : Int) : Decidable (emp a b c d) := by unfold emp; infer_instance
/-- A rectangle, brought by a place. -/
def bxm (t ax ay a b c d : Int) : Int × Int × Int × Int :=
  (min (wrap64 ((D t a b).1 + ax)) (wrap64 ((D t c d).1 + ax)), min (wrap64 ((D t a b).2 + ay)) (wrap64 ((D t c d).2 + ay)), max (wrap64 ((D t a b).1 + ax)) (wrap64 ((D t c d).1 + ax)), max (wrap64 ((D t a b).2 + ay)) (wrap64 ((D t c d).2 + ay)))
/-- How many plates a sheet has; how it is turned over; where may be printed; where a block may be. -/
def plt (s : Int) : Int := if s = 1 ∨ s = 2 then 2 else if s = 3 ∨ s = 4 then 1 else 0
def flp (s w h : Int) : Int × Int × Int := if plt s = 0 then (0, 0, 0) else if s = 2 ∨ s = 4 then (6, 0, h) else (4, w, 0)
def are (s w h side g t : Int) : Int × Int × Int × Int := if plt s = 0 then (0, 0, 0, 0) else if s = 2 ∨ s = 4 then (side, max g t, wrap64 (w - side), wrap64 (h - max g t)) else (side, g, wrap64 (w - side), wrap64 (h - t))
def reg (s w h : Int) (a : Int × Int × Int × Int) : Int × Int × Int × Int := if s = 3 then (a.1, a.2.1, min a.2.2.1 (w / 2), a.2.2.2) else if s = 4 then (a.1, a.2.1, a.2.2.1, min a.2.2.2 (h / 2)) else a
theorem plt_zero (s : Int) : plt s = 0 ↔ s < 1 ∨ s > 4 := by
  unfold plt
  by_cases h1 : s = 1 ∨ s = 2
  · rw [if_pos h1]; omega
  · rw [if_neg h1]; by_cases h2 : s = 3 ∨ s = 4
    · rw [if_pos h2]; omega
    · rw [if_neg h2]; omega
theorem min_R {a b : Int} (ha : R a) (hb : R b) : R (min a b) := by unfold R at *; omega
theorem max_R {a b : Int} (ha : R a) (hb : R b) : R (max a b) := by unfold R at *; omega
theorem are_R {s w h side g t : Int} (h1 : R side) (h2 : R g) (h3 : R t) : R (are s w h side g t).1 ∧ R (are s w h side g t).2.1 ∧ R (are s w h side g t).2.2.1 ∧ R (are s w h side g t).2.2.2 := by
  unfold are
  have h0 : R 0 := by unfold R; omega
  split
  · exact ⟨h0, h0, h0, h0⟩
  · split
    · exact ⟨h1, max_R h2 h3, R_wrap _, R_wrap _⟩
    · exact ⟨h1, h2, R_wrap _, R_wrap _⟩
theorem mni_eq (a b : Int) : mni a b = min a b := by unfold mni; split <;> omega
theorem mxi_eq (a b : Int) : mxi a b = max a b := by unfold mxi; split <;> omega
/-- A panel's size. -/
def psz (a b c x y z : Int) : Int × Int := (wrap64 (wrap64 (c + a) + b), wrap64 (wrap64 (z + x) + y))
def mt (a b c d a' b' c' d' : Int) : Int × Int × Int × Int := if emp (max a a') (max b b') (min c c') (min d d') then (0, 0, 0, 0) else (max a a', max b b', min c c', min d d')
def wit (a b c d a' b' c' d' : Int) : Prop := emp a b c d ∨ (a' ≤ a ∧ c ≤ c' ∧ b' ≤ b ∧ d ≤ d')
instance (a b c d a' b' c' d' : Int) : Decidable (wit a b c d a' b' c' d') := by unfold wit; infer_instance
/-- What a job's numbers may be. -/
def B15 (j0 : ByteArray) (j1 j2 j3 j4 j5 j6 j7 j8 j9 j10 j11 j12 j13 : Int) (j14 j15 : Ov) (j16 j17 j18 j19 j20 j21 j22 j23 j24 j25 j26 j27 j28 j29 j30 j31 j32 : Int) : Prop := (1 ≤ j1 ∧ j1 ≤ 100000) ∧ (-5000000 ≤ j2 ∧ j2 ≤ 5000000) ∧ (-5000000 ≤ j3 ∧ j3 ≤ 5000000) ∧ (1 ≤ j4 ∧ j4 ≤ 5000000) ∧ (1 ≤ j5 ∧ j5 ≤ 5000000) ∧ (0 ≤ j6 ∧ j6 ≤ 5000000) ∧ (0 ≤ j7 ∧ j7 ≤ 5000000) ∧ (0 ≤ j8 ∧ j8 ≤ 5000000) ∧ (0 ≤ j9 ∧ j9 ≤ 5000000) ∧ (0 ≤ j10 ∧ j10 ≤ 5000000) ∧ (1 ≤ j11 ∧ j11 ≤ 4) ∧ (1 ≤ j16 ∧ j16 ≤ 4) ∧ (1 ≤ j17 ∧ j17 ≤ 5000000) ∧ (1 ≤ j18 ∧ j18 ≤ 5000000) ∧ (0 ≤ j19 ∧ j19 ≤ 5000000) ∧ (0 ≤ j20 ∧ j20 ≤ 5000000) ∧ (0 ≤ j21 ∧ j21 ≤ 5000000) ∧ (0 ≤ j22 ∧ j22 ≤ 100000) ∧ (0 ≤ j23 ∧ j23 ≤ 1000) ∧ (1 ≤ j24 ∧ j24 ≤ 1000) ∧ (0 ≤ j25 ∧ j25 ≤ 3) ∧ (0 ≤ j26 ∧ j26 ≤ 5000000) ∧ (0 ≤ j27 ∧ j27 ≤ 5000000) ∧ (0 ≤ j28 ∧ j28 ≤ 5000000) ∧ (0 ≤ j29 ∧ j29 ≤ 5000000) ∧ (0 ≤ j30 ∧ j30 ≤ 5000000) ∧ (1 ≤ j31 ∧ j31 ≤ 1000) ∧ (0 ≤ j32 ∧ j32 ≤ 5000000)
theorem pdec {p : Prop} [Decidable p] (h : p) : ¬ ((!decide p) = true) := by simp [h]
theorem ndec {p : Prop} [Decidable p] (h : ¬ p) : (!decide p) = true := by simp [h]
theorem q04_Empty (a b c d : Int) : gatherumref04_Empty.f a b c d = some (decide (emp a b c d)) := by
  unfold gatherumref04_Empty.f emp
  by_cases h : c ≤ a <;> simp [h]
theorem qPlates (s : Int) : style_Plates.f s = some (plt s) := by
  unfold style_Plates.f plt
  by_cases h1 : s = 1
  · simp [h1]
  · by_cases h2 : s = 2
    · simp [h2]
    · by_cases h3 : s = 3
      · simp [h3]
      · by_cases h4 : s = 4 <;> simp [h1, h2, h3, h4]
theorem qIn (a b c : Int) : num_In.f a b c = some (decide (b ≤ a ∧ a ≤ c)) := by
  unfold num_In.f
  by_cases h : b ≤ a <;> simp [h]
theorem qbFirst (j0 : ByteArray) (j1 j2 j3 j4 j5 j6 j7 j8 j9 j10 j11 j12 j13 : Int) (j14 j15 : Ov) (j16 j17 j18 j19 j20 j21 j22 j23 j24 j25 j26 j27 j28 j29 j30 j31 j32 : Int) : (B15 j0 j1 j2 j3 j4 j5 j6 j7 j8 j9 j10 j11 j12 j13 j14 j15 j16 j17 j18 j19 j20 j21 j22 j23 j24 j25 j26 j27 j28 j29 j30 j31 j32 ∧ bounds_First.f j0 j1 j2 j3 j4 j5 j6 j7 j8 j9 j10 j11 j12 j13 j14 j15 j16 j17 j18 j19 j20 j21 j22 j23 j24 j25 j26 j27 j28 j29 j30 j31 j32 = some (-1)) ∨ (¬ B15 j0 j1 j2 j3 j4 j5 j6 j7 j8 j9 j10 j11 j12 j13 j14 j15 j16 j17 j18 j19 j20 j21 j22 j23 j24 j25 j26 j27 j28 j29 j30 j31 j32 ∧ ∃ v, bounds_First.f j0 j1 j2 j3 j4 j5 j6 j7 j8 j9 j10 j11 j12 j13 j14 j15 j16 j17 j18 j19 j20 j21 j22 j23 j24 j25 j26 j27 j28 j29 j30 j31 j32 = some v ∧ 0 ≤ v) := by
  unfold bounds_First.f
  simp only [qIn, Option.bind_some]
  rcases Classical.em (1 ≤ j1 ∧ j1 ≤ 100000) with h0 | h0
  case inr => exact Or.inr ⟨fun h => h0 h.1, 0, by rw [if_pos (ndec h0)], by omega⟩
  rw [if_neg (pdec h0)]
  rcases Classical.em (-5000000 ≤ j2 ∧ j2 ≤ 5000000) with h1 | h1
  case inr => exact Or.inr ⟨fun h => h1 h.2.1, 1, by rw [if_pos (ndec h1)], by omega⟩
  rw [if_neg (pdec h1)]
  rcases Classical.em (-5000000 ≤ j3 ∧ j3 ≤ 5000000) with h2 | h2
  case inr => exact Or.inr ⟨fun h => h2 h.2.2.1, 2, by rw [if_pos (ndec h2)], by omega⟩
  rw [if_neg (pdec h2)]
  rcases Classical.em (1 ≤ j4 ∧ j4 ≤ 5000000) with h3 | h3
  case inr => exact Or.inr ⟨fun h => h3 h.2.2.2.1, 3, by rw [if_pos (ndec h3)], by omega⟩
  rw [if_neg (pdec h3)]
  rcases Classical.em (1 ≤ j5 ∧ j5 ≤ 5000000) with h4 | h4
  case inr => exact Or.inr ⟨fun h => h4 h.2.2.2.2.1, 4, by rw [if_pos (ndec h4)], by omega⟩
  rw [if_neg (pdec h4)]
  rcases Classical.em (0 ≤ j6 ∧ j6 ≤ 5000000) with h5 | h5
  case inr => exact Or.inr ⟨fun h => h5 h.2.2.2.2.2.1, 5, by rw [if_pos (ndec h5)], by omega⟩
  rw [if_neg (pdec h5)]
  rcases Classical.em (0 ≤ j7 ∧ j7 ≤ 5000000) with h6 | h6
  case inr => exact Or.inr ⟨fun h => h6 h.2.2.2.2.2.2.1, 6, by rw [if_pos (ndec h6)], by omega⟩
  rw [if_neg (pdec h6)]
  rcases Classical.em (0 ≤ j8 ∧ j8 ≤ 5000000) with h7 | h7
  case inr => exact Or.inr ⟨fun h => h7 h.2.2.2.2.2.2.2.1, 7, by rw [if_pos (ndec h7)], by omega⟩
  rw [if_neg (pdec h7)]
  rcases Classical.em (0 ≤ j9 ∧ j9 ≤ 5000000) with h8 | h8
  case inr => exact Or.inr ⟨fun h => h8 h.2.2.2.2.2.2.2.2.1, 8, by rw [if_pos (ndec h8)], by omega⟩
  rw [if_neg (pdec h8)]
  rcases Classical.em (0 ≤ j10 ∧ j10 ≤ 5000000) with h9 | h9
  case inr => exact Or.inr ⟨fun h => h9 h.2.2.2.2.2.2.2.2.2.1, 9, by rw [if_pos (ndec h9)], by omega⟩
  rw [if_neg (pdec h9)]
  rcases Classical.em (1 ≤ j11 ∧ j11 ≤ 4) with h10 | h10
  case inr => exact Or.inr ⟨fun h => h10 h.2.2.2.2.2.2.2.2.2.2.1, 10, by rw [if_pos (ndec h10)], by omega⟩
  rw [if_neg (pdec h10)]
  rcases Classical.em (1 ≤ j16 ∧ j16 ≤ 4) with h11 | h11
  case inr => exact Or.inr ⟨fun h => h11 h.2.2.2.2.2.2.2.2.2.2.2.1, 11, by rw [if_pos (ndec h11)], by omega⟩
  rw [if_neg (pdec h11)]
  rcases Classical.em (1 ≤ j17 ∧ j17 ≤ 5000000) with h12 | h12
  case inr => exact Or.inr ⟨fun h => h12 h.2.2.2.2.2.2.2.2.2.2.2.2.1, 12, by rw [if_pos (ndec h12)], by omega⟩
  rw [if_neg (pdec h12)]
  rcases Classical.em (1 ≤ j18 ∧ j18 ≤ 5000000) with h13 | h13
  case inr => exact Or.inr ⟨fun h => h13 h.2.2.2.2.2.2.2.2.2.2.2.2.2.1, 13, by rw [if_pos (ndec h13)], by omega⟩
  rw [if_neg (pdec h13)]
  rcases Classical.em (0 ≤ j19 ∧ j19 ≤ 5000000) with h14 | h14
  case inr => exact Or.inr ⟨fun h => h14 h.2.2.2.2.2.2.2.2.2.2.2.2.2.2.1, 14, by rw [if_pos (ndec h14)], by omega⟩
  rw [if_neg (pdec h14)]
  rcases Classical.em (0 ≤ j20 ∧ j20 ≤ 5000000) with h15 | h15
  case inr => exact Or.inr ⟨fun h => h15 h.2.2.2.2.2.2.2.2.2.2.2.2.2.2.2.1, 15, by rw [if_pos (ndec h15)], by omega⟩
  rw [if_neg (pdec h15)]
  rcases Classical.em (0 ≤ j21 ∧ j21 ≤ 5000000) with h16 | h16
  case inr => exact Or.inr ⟨fun h => h16 h.2.2.2.2.2.2.2.2.2.2.2.2.2.2.2.2.1, 16, by rw [if_pos (ndec h16)], by omega⟩
  rw [if_neg (pdec h16)]
  rcases Classical.em (0 ≤ j22 ∧ j22 ≤ 100000) with h17 | h17
  case inr => exact Or.inr ⟨fun h => h17 h.2.2.2.2.2.2.2.2.2.2.2.2.2.2.2.2.2.1, 17, by rw [if_pos (ndec h17)], by omega⟩
  rw [if_neg (pdec h17)]
  rcases Classical.em (0 ≤ j23 ∧ j23 ≤ 1000) with h18 | h18
  case inr => exact Or.inr ⟨fun h => h18 h.2.2.2.2.2.2.2.2.2.2.2.2.2.2.2.2.2.2.1, 18, by rw [if_pos (ndec h18)], by omega⟩
  rw [if_neg (pdec h18)]
  rcases Classical.em (1 ≤ j24 ∧ j24 ≤ 1000) with h19 | h19
  case inr => exact Or.inr ⟨fun h => h19 h.2.2.2.2.2.2.2.2.2.2.2.2.2.2.2.2.2.2.2.1, 19, by rw [if_pos (ndec h19)], by omega⟩
  rw [if_neg (pdec h19)]
  rcases Classical.em (0 ≤ j25 ∧ j25 ≤ 3) with h20 | h20
  case inr => exact Or.inr ⟨fun h => h20 h.2.2.2.2.2.2.2.2.2.2.2.2.2.2.2.2.2.2.2.2.1, 20, by rw [if_pos (ndec h20)], by omega⟩
  rw [if_neg (pdec h20)]
  rcases Classical.em (0 ≤ j26 ∧ j26 ≤ 5000000) with h21 | h21
  case inr => exact Or.inr ⟨fun h => h21 h.2.2.2.2.2.2.2.2.2.2.2.2.2.2.2.2.2.2.2.2.2.1, 21, by rw [if_pos (ndec h21)], by omega⟩
  rw [if_neg (pdec h21)]
  rcases Classical.em (0 ≤ j27 ∧ j27 ≤ 5000000) with h22 | h22
  case inr => exact Or.inr ⟨fun h => h22 h.2.2.2.2.2.2.2.2.2.2.2.2.2.2.2.2.2.2.2.2.2.2.1, 22, by rw [if_pos (ndec h22)], by omega⟩
  rw [if_neg (pdec h22)]
  rcases Classical.em (0 ≤ j28 ∧ j28 ≤ 5000000) with h23 | h23
  case inr => exact Or.inr ⟨fun h => h23 h.2.2.2.2.2.2.2.2.2.2.2.2.2.2.2.2.2.2.2.2.2.2.2.1, 23, by rw [if_pos (ndec h23)], by omega⟩
  rw [if_neg (pdec h23)]
  rcases Classical.em (0 ≤ j29 ∧ j29 ≤ 5000000) with h24 | h24
  case inr => exact Or.inr ⟨fun h => h24 h.2.2.2.2.2.2.2.2.2.2.2.2.2.2.2.2.2.2.2.2.2.2.2.2.1, 24, by rw [if_pos (ndec h24)], by omega⟩
  rw [if_neg (pdec h24)]
  rcases Classical.em (0 ≤ j30 ∧ j30 ≤ 5000000) with h25 | h25
  case inr => exact Or.inr ⟨fun h => h25 h.2.2.2.2.2.2.2.2.2.2.2.2.2.2.2.2.2.2.2.2.2.2.2.2.2.1, 25, by rw [if_pos (ndec h25)], by omega⟩
  rw [if_neg (pdec h25)]
  rcases Classical.em (1 ≤ j31 ∧ j31 ≤ 1000) with h26 | h26
  case inr => exact Or.inr ⟨fun h => h26 h.2.2.2.2.2.2.2.2.2.2.2.2.2.2.2.2.2.2.2.2.2.2.2.2.2.2.1, 26, by rw [if_pos (ndec h26)], by omega⟩
  rw [if_neg (pdec h26)]
  rcases Classical.em (0 ≤ j32 ∧ j32 ≤ 5000000) with h27 | h27
  case inr => exact Or.inr ⟨fun h => h27 h.2.2.2.2.2.2.2.2.2.2.2.2.2.2.2.2.2.2.2.2.2.2.2.2.2.2.2, 27, by rw [if_pos (ndec h27)], by omega⟩
  rw [if_neg (pdec h27)]
  exact Or.inl ⟨⟨h0, h1, h2, h3, h4, h5, h6, h7, h8, h9, h10, h11, h12, h13, h14, h15, h16, h17, h18, h19, h20, h21, h22, h23, h24, h25, h26, h27⟩, rfl⟩
/-- How many panels there are. -/
def pan (c r : Int) : Int := if (1 ≤ c ∧ c ≤ 64) ∧ (1 ≤ r ∧ r ≤ 64) then c * r else 0
theorem qPanels (c r : Int) (o : Ov) : scheme_Panels.f c r o = some (pan c r) := by
  unfold scheme_Panels.f pan
  simp only [qIn, Option.bind_some]
  by_cases h : 1 ≤ c ∧ c ≤ 64
  · by_cases h' : 1 ≤ r ∧ r ≤ 64
    · have : 0 ≤ c * r := Int.mul_nonneg (by omega) (by omega)
      have : c * r ≤ 64 * 64 := Int.mul_le_mul h.2 h'.2 (by omega) (by omega)
      simp only [h, h', and_self, decide_true, Bool.not_true, Bool.false_eq_true, if_false, if_true]
      rw [wrap_id (by omega) (by omega)]
    · simp [h, h']
  · simp [h]
theorem pan_bounds (c r : Int) : 0 ≤ pan c r ∧ pan c r ≤ 4096 := by
  unfold pan; split
  · rename_i h
    have : 0 ≤ c * r := Int.mul_nonneg (by omega) (by omega)
    have : c * r ≤ 64 * 64 := Int.mul_le_mul h.1.2 h.2.2 (by omega) (by omega)
    omega
  · omega
theorem pan_pos {c r : Int} (h : 0 < pan c r) : (1 ≤ c ∧ c ≤ 64) ∧ (1 ≤ r ∧ r ≤ 64) := by
  unfold pan at h; split at h
  · assumption
  · omega
theorem qMay (j0 : ByteArray) (j1 j2 j3 j4 j5 j6 j7 j8 j9 j10 j11 j12 j13 : Int) (j14 j15 : Ov) (j16 j17 j18 j19 j20 j21 j22 j23 j24 j25 j26 j27 j28 j29 j30 j31 j32 : Int) (c r : Int) (o : Ov) : (B15 j0 j1 j2 j3 j4 j5 j6 j7 j8 j9 j10 j11 j12 j13 j14 j15 j16 j17 j18 j19 j20 j21 j22 j23 j24 j25 j26 j27 j28 j29 j30 j31 j32 ∧ 0 < pan c r ∧ area_may.f j0 j1 j2 j3 j4 j5 j6 j7 j8 j9 j10 j11 j12 j13 j14 j15 j16 j17 j18 j19 j20 j21 j22 j23 j24 j25 j26 j27 j28 j29 j30 j31 j32 c r o = some true) ∨ (¬ (B15 j0 j1 j2 j3 j4 j5 j6 j7 j8 j9 j10 j11 j12 j13 j14 j15 j16 j17 j18 j19 j20 j21 j22 j23 j24 j25 j26 j27 j28 j29 j30 j31 j32 ∧ 0 < pan c r) ∧ area_may.f j0 j1 j2 j3 j4 j5 j6 j7 j8 j9 j10 j11 j12 j13 j14 j15 j16 j17 j18 j19 j20 j21 j22 j23 j24 j25 j26 j27 j28 j29 j30 j31 j32 c r o = some false) := by
  unfold area_may.f
  rcases qbFirst j0 j1 j2 j3 j4 j5 j6 j7 j8 j9 j10 j11 j12 j13 j14 j15 j16 j17 j18 j19 j20 j21 j22 j23 j24 j25 j26 j27 j28 j29 j30 j31 j32 with ⟨h, e⟩ | ⟨h, v, e, hv⟩
  · rw [e, Option.bind_some, if_pos (by decide), qPanels, Option.bind_some]
    by_cases hp : 0 < pan c r
    · exact Or.inl ⟨h, hp, by simp [hp]⟩
    · exact Or.inr ⟨fun h => hp h.2, by simp [hp]⟩
  · rw [e, Option.bind_some, if_neg (by simp; omega)]
    exact Or.inr ⟨fun h' => h h'.1, rfl⟩
theorem qSize (j0 : ByteArray) (j1 j2 j3 j4 j5 j6 j7 j8 j9 j10 j11 j12 j13 : Int) (j14 j15 : Ov) (j16 j17 j18 j19 j20 j21 j22 j23 j24 j25 j26 j27 j28 j29 j30 j31 j32 : Int) : panel_Size.f j0 j1 j2 j3 j4 j5 j6 j7 j8 j9 j10 j11 j12 j13 j14 j15 j16 j17 j18 j19 j20 j21 j22 j23 j24 j25 j26 j27 j28 j29 j30 j31 j32 = some (psz j4 j9 j10 j5 j7 j8) := rfl
/-- A block's size. -/
def blk (w h c r n : Int) : Int × Int := (wrap64 (w * c), wrap64 (wrap64 (h * r) * n))
/-- How many copies. -/
def cps (b : Int) : Int := if b = 4 then 2 else 1
theorem qBlock (j0 : ByteArray) (j1 j2 j3 j4 j5 j6 j7 j8 j9 j10 j11 j12 j13 : Int) (j14 j15 : Ov) (j16 j17 j18 j19 j20 j21 j22 j23 j24 j25 j26 j27 j28 j29 j30 j31 j32 : Int) (c r : Int) (o : Ov) (n : Int) : panel_Block.f j0 j1 j2 j3 j4 j5 j6 j7 j8 j9 j10 j11 j12 j13 j14 j15 j16 j17 j18 j19 j20 j21 j22 j23 j24 j25 j26 j27 j28 j29 j30 j31 j32 c r o n = some (blk (psz j4 j9 j10 j5 j7 j8).1 (psz j4 j9 j10 j5 j7 j8).2 c r n) := rfl
/-- A block as it is turned. -/
def out (q : Int) (b : Int × Int) : Int × Int := if Int.tmod q 2 = 1 then (b.2, b.1) else b
/-- Where a block lies. -/
def att (q : Int) (g : Int × Int × Int × Int) (o : Int × Int) : Int × Int × Int :=
  (q, if q = 1 ∨ q = 2 then wrap64 (wrap64 (g.1 + wrap64 (wrap64 (g.2.2.1 - g.1) - o.1) / 2) + o.1) else wrap64 (g.1 + wrap64 (wrap64 (g.2.2.1 - g.1) - o.1) / 2),
    if q = 2 ∨ q = 3 then wrap64 (wrap64 (g.2.1 + wrap64 (wrap64 (g.2.2.2 - g.2.1) - o.2) / 2) + o.2) else wrap64 (g.2.1 + wrap64 (wrap64 (g.2.2.2 - g.2.1) - o.2) / 2))
theorem att_R (q : Int) (g : Int × Int × Int × Int) (o : Int × Int) : R (att q g o).2.1 ∧ R (att q g o).2.2 := by
  refine ⟨?_, ?_⟩
  · show R (if q = 1 ∨ q = 2 then _ else _)
    by_cases h : q = 1 ∨ q = 2
    · rw [if_pos h]; exact R_wrap _
    · rw [if_neg h]; exact R_wrap _
  · show R (if q = 2 ∨ q = 3 then _ else _)
    by_cases h : q = 2 ∨ q = 3
    · rw [if_pos h]; exact R_wrap _
    · rw [if_neg h]; exact R_wrap _
theorem blk_bounds (w h c r n : Int) (hw : 1 ≤ w ∧ w ≤ 15000000) (hh : 1 ≤ h ∧ h ≤ 15000000) (hc : 1 ≤ c ∧ c ≤ 64) (hr : 1 ≤ r ∧ r ≤ 64) (hn : n = 1 ∨ n = 2) : blk w h c r n = (w * c, h * r * n) ∧ (1 ≤ w * c ∧ w * c ≤ 960000000) ∧ (1 ≤ h * r * n ∧ h * r * n ≤ 1920000000) := by
  have m1 : 1 * 1 ≤ w * c := Int.mul_le_mul hw.1 hc.1 (by omega) (by omega)
  have m2 : w * c ≤ 15000000 * 64 := Int.mul_le_mul hw.2 hc.2 (by omega) (by omega)
  have m3 : 1 * 1 ≤ h * r := Int.mul_le_mul hh.1 hr.1 (by omega) (by omega)
  have m4 : h * r ≤ 15000000 * 64 := Int.mul_le_mul hh.2 hr.2 (by omega) (by omega)
  have e1 : wrap64 (w * c) = w * c := wrap_id (by omega) (by omega)
  have e2 : wrap64 (h * r) = h * r := wrap_id (by omega) (by omega)
  unfold blk
  rw [e1, e2]
  generalize h * r = x at *
  generalize w * c = y at *
  rcases hn with rfl | rfl
  · rw [wrap_id (n := x * 1) (by omega) (by omega)]; exact ⟨rfl, by omega, by omega⟩
  · rw [wrap_id (n := x * 2) (by omega) (by omega)]; exact ⟨rfl, by omega, by omega⟩
theorem cps_or (b : Int) : cps b = 1 ∨ cps b = 2 := by unfold cps; split <;> simp
/-- What a well job's panel is. -/
theorem psz_ok (j0 : ByteArray) (j1 j2 j3 j4 j5 j6 j7 j8 j9 j10 j11 j12 j13 : Int) (j14 j15 : Ov) (j16 j17 j18 j19 j20 j21 j22 j23 j24 j25 j26 j27 j28 j29 j30 j31 j32 : Int) (h : B15 j0 j1 j2 j3 j4 j5 j6 j7 j8 j9 j10 j11 j12 j13 j14 j15 j16 j17 j18 j19 j20 j21 j22 j23 j24 j25 j26 j27 j28 j29 j30 j31 j32) : psz j4 j9 j10 j5 j7 j8 = (j10 + j4 + j9, j8 + j5 + j7) ∧ (1 ≤ j10 + j4 + j9 ∧ j10 + j4 + j9 ≤ 15000000) ∧ (1 ≤ j8 + j5 + j7 ∧ j8 + j5 + j7 ≤ 15000000) := by
  obtain ⟨-, -, -, b4, b5, b6, b7, b8, b9, b10, -⟩ := h
  unfold psz
  rw [wrap_id (n := j10 + j4) (by omega) (by omega), wrap_id (n := j8 + j5) (by omega) (by omega), wrap_id (n := j10 + j4 + j9) (by omega) (by omega), wrap_id (n := j8 + j5 + j7) (by omega) (by omega)]
  exact ⟨rfl, by omega, by omega⟩
theorem may_blk (j0 : ByteArray) (j1 j2 j3 j4 j5 j6 j7 j8 j9 j10 j11 j12 j13 : Int) (j14 j15 : Ov) (j16 j17 j18 j19 j20 j21 j22 j23 j24 j25 j26 j27 j28 j29 j30 j31 j32 : Int) (c r : Int) (h : B15 j0 j1 j2 j3 j4 j5 j6 j7 j8 j9 j10 j11 j12 j13 j14 j15 j16 j17 j18 j19 j20 j21 j22 j23 j24 j25 j26 j27 j28 j29 j30 j31 j32) (hp : 0 < pan c r) : (1 ≤ (blk (psz j4 j9 j10 j5 j7 j8).1 (psz j4 j9 j10 j5 j7 j8).2 c r (cps j11)).1 ∧ (blk (psz j4 j9 j10 j5 j7 j8).1 (psz j4 j9 j10 j5 j7 j8).2 c r (cps j11)).1 ≤ 960000000) ∧ (1 ≤ (blk (psz j4 j9 j10 j5 j7 j8).1 (psz j4 j9 j10 j5 j7 j8).2 c r (cps j11)).2 ∧ (blk (psz j4 j9 j10 j5 j7 j8).1 (psz j4 j9 j10 j5 j7 j8).2 c r (cps j11)).2 ≤ 1920000000) := by
  obtain ⟨e, h1, h2⟩ := psz_ok j0 j1 j2 j3 j4 j5 j6 j7 j8 j9 j10 j11 j12 j13 j14 j15 j16 j17 j18 j19 j20 j21 j22 j23 j24 j25 j26 j27 j28 j29 j30 j31 j32 h
  have hc := pan_pos hp
  rw [e]
  obtain ⟨e', h3, h4⟩ := blk_bounds _ _ c r (cps j11) h1 h2 hc.1 hc.2 (cps_or j11)
  rw [e']
  exact ⟨h3, h4⟩
theorem may_q (j0 : ByteArray) (j1 j2 j3 j4 j5 j6 j7 j8 j9 j10 j11 j12 j13 : Int) (j14 j15 : Ov) (j16 j17 j18 j19 j20 j21 j22 j23 j24 j25 j26 j27 j28 j29 j30 j31 j32 : Int) (h : B15 j0 j1 j2 j3 j4 j5 j6 j7 j8 j9 j10 j11 j12 j13 j14 j15 j16 j17 j18 j19 j20 j21 j22 j23 j24 j25 j26 j27 j28 j29 j30 j31 j32) : 0 ≤ j25 ∧ j25 ≤ 3 := by
  obtain ⟨-, -, -, -, -, -, -, -, -, -, -, -, -, -, -, -, -, -, -, -, b, -⟩ := h
  exact b
theorem may_s (j0 : ByteArray) (j1 j2 j3 j4 j5 j6 j7 j8 j9 j10 j11 j12 j13 : Int) (j14 j15 : Ov) (j16 j17 j18 j19 j20 j21 j22 j23 j24 j25 j26 j27 j28 j29 j30 j31 j32 : Int) (h : B15 j0 j1 j2 j3 j4 j5 j6 j7 j8 j9 j10 j11 j12 j13 j14 j15 j16 j17 j18 j19 j20 j21 j22 j23 j24 j25 j26 j27 j28 j29 j30 j31 j32) : 1 ≤ j16 ∧ j16 ≤ 4 := by
  obtain ⟨-, -, -, -, -, -, -, -, -, -, -, b, -⟩ := h
  exact b
theorem qWhole (j0 : ByteArray) (j1 j2 j3 j4 j5 j6 j7 j8 j9 j10 j11 j12 j13 : Int) (j14 j15 : Ov) (j16 j17 j18 j19 j20 j21 j22 j23 j24 j25 j26 j27 j28 j29 j30 j31 j32 : Int) (c r : Int) (o : Ov) : area_whole.f j0 j1 j2 j3 j4 j5 j6 j7 j8 j9 j10 j11 j12 j13 j14 j15 j16 j17 j18 j19 j20 j21 j22 j23 j24 j25 j26 j27 j28 j29 j30 j31 j32 c r o = some (0, 0, (blk (psz j4 j9 j10 j5 j7 j8).1 (psz j4 j9 j10 j5 j7 j8).2 c r (cps j11)).1, (blk (psz j4 j9 j10 j5 j7 j8).1 (psz j4 j9 j10 j5 j7 j8).2 c r (cps j11)).2) := by
  unfold area_whole.f area_copies.f
  have e (b : Int × Int) : wrap64 (0 + wrap64 b.1) = wrap64 b.1 := by rw [Int.zero_add, wrap_wrap]
  by_cases h : j11 = 4
  · simp [h, qBlock, box_Of.f, cps, blk, wrap_wrap]
  · simp [h, qBlock, box_Of.f, cps, blk, wrap_wrap]
theorem blk_R (w h c r n : Int) : R (blk w h c r n).1 ∧ R (blk w h c r n).2 := ⟨R_wrap _, R_wrap _⟩
theorem qOuterNo (j0 : ByteArray) (j1 j2 j3 j4 j5 j6 j7 j8 j9 j10 j11 j12 j13 : Int) (j14 j15 : Ov) (j16 j17 j18 j19 j20 j21 j22 j23 j24 j25 j26 j27 j28 j29 j30 j31 j32 : Int) (c r : Int) (o : Ov) (h : ¬ (B15 j0 j1 j2 j3 j4 j5 j6 j7 j8 j9 j10 j11 j12 j13 j14 j15 j16 j17 j18 j19 j20 j21 j22 j23 j24 j25 j26 j27 j28 j29 j30 j31 j32 ∧ 0 < pan c r)) : area_Outer.f j0 j1 j2 j3 j4 j5 j6 j7 j8 j9 j10 j11 j12 j13 j14 j15 j16 j17 j18 j19 j20 j21 j22 j23 j24 j25 j26 j27 j28 j29 j30 j31 j32 c r o = some (0, 0) := by
  unfold area_Outer.f
  rcases qMay j0 j1 j2 j3 j4 j5 j6 j7 j8 j9 j10 j11 j12 j13 j14 j15 j16 j17 j18 j19 j20 j21 j22 j23 j24 j25 j26 j27 j28 j29 j30 j31 j32 c r o with ⟨h1, h2, e⟩ | ⟨_, e⟩
  · exact absurd ⟨h1, h2⟩ h
  · rw [e]; rfl
theorem qOuter (j0 : ByteArray) (j1 j2 j3 j4 j5 j6 j7 j8 j9 j10 j11 j12 j13 : Int) (j14 j15 : Ov) (j16 j17 j18 j19 j20 j21 j22 j23 j24 j25 j26 j27 j28 j29 j30 j31 j32 : Int) (c r : Int) (o : Ov) (h : B15 j0 j1 j2 j3 j4 j5 j6 j7 j8 j9 j10 j11 j12 j13 j14 j15 j16 j17 j18 j19 j20 j21 j22 j23 j24 j25 j26 j27 j28 j29 j30 j31 j32) (hp : 0 < pan c r) : area_Outer.f j0 j1 j2 j3 j4 j5 j6 j7 j8 j9 j10 j11 j12 j13 j14 j15 j16 j17 j18 j19 j20 j21 j22 j23 j24 j25 j26 j27 j28 j29 j30 j31 j32 c r o = some (out j25 (blk (psz j4 j9 j10 j5 j7 j8).1 (psz j4 j9 j10 j5 j7 j8).2 c r (cps j11))) := by
  unfold area_Outer.f
  rcases qMay j0 j1 j2 j3 j4 j5 j6 j7 j8 j9 j10 j11 j12 j13 j14 j15 j16 j17 j18 j19 j20 j21 j22 j23 j24 j25 j26 j27 j28 j29 j30 j31 j32 c r o with ⟨h1, h2, e⟩ | ⟨h', _⟩
  case inr => exact absurd ⟨h, hp⟩ h'
  have hq := may_q j0 j1 j2 j3 j4 j5 j6 j7 j8 j9 j10 j11 j12 j13 j14 j15 j16 j17 j18 j19 j20 j21 j22 j23 j24 j25 j26 j27 j28 j29 j30 j31 j32 h
  have hR := blk_R (psz j4 j9 j10 j5 j7 j8).1 (psz j4 j9 j10 j5 j7 j8).2 c r (cps j11)
  rw [e, Option.bind_some, if_neg (by decide), qWhole, Option.bind_some]
  generalize (blk (psz j4 j9 j10 j5 j7 j8).1 (psz j4 j9 j10 j5 j7 j8).2 c r (cps j11)) = b at *
  simp only [box_Size.f, turn_Swaps.f, Option.bind_some, Int.sub_zero, R_id hR.1, R_id hR.2, and1, out]
  have hc : j25 = 0 ∨ j25 = 1 ∨ j25 = 2 ∨ j25 = 3 := by omega
  rcases hc with e | e | e | e <;> rw [e] <;> rfl
theorem qacross (s : Int) : style_across.f s = some (decide (s = 2 ∨ s = 4)) := by
  unfold style_across.f
  by_cases h : s = 2 <;> by_cases h' : s = 4 <;> simp [h, h']
theorem qArea (j0 : ByteArray) (j1 j2 j3 j4 j5 j6 j7 j8 j9 j10 j11 j12 j13 : Int) (j14 j15 : Ov) (j16 j17 j18 j19 j20 j21 j22 j23 j24 j25 j26 j27 j28 j29 j30 j31 j32 : Int) : style_Area.f j0 j1 j2 j3 j4 j5 j6 j7 j8 j9 j10 j11 j12 j13 j14 j15 j16 j17 j18 j19 j20 j21 j22 j23 j24 j25 j26 j27 j28 j29 j30 j31 j32 = some (are j16 j17 j18 j19 j20 j21) := by
  unfold style_Area.f are
  simp only [qPlates, qacross, Option.bind_some]
  have e : mxi j20 j21 = max j20 j21 := by unfold mxi; split <;> omega
  by_cases h : plt j16 = 0
  · simp [h]
  · by_cases h' : j16 = 2 ∨ j16 = 4 <;> simp [h, h', e]
theorem qRegion (j0 : ByteArray) (j1 j2 j3 j4 j5 j6 j7 j8 j9 j10 j11 j12 j13 : Int) (j14 j15 : Ov) (j16 j17 j18 j19 j20 j21 j22 j23 j24 j25 j26 j27 j28 j29 j30 j31 j32 : Int) : style_Region.f j0 j1 j2 j3 j4 j5 j6 j7 j8 j9 j10 j11 j12 j13 j14 j15 j16 j17 j18 j19 j20 j21 j22 j23 j24 j25 j26 j27 j28 j29 j30 j31 j32 = some (reg j16 j17 j18 (are j16 j17 j18 j19 j20 j21)) := by
  unfold style_Region.f
  simp only [qArea, Option.bind_some, reg, mni_eq]
  by_cases h : j16 = 3
  · simp [h]
  · by_cases h' : j16 = 4 <;> simp [h, h']
theorem qTurnDo (K : Nat) (t x y : Int) (hx : R x) (hy : R y) : turn_Do.f (K + 50) t x y = some (D t x y) := by
  have h4 : t % 4 = t % 8 % 4 := by omega
  rcases eight t with h | h | h | h | h | h | h | h <;> rw [h] at h4 <;>
    simp [turn_Do.f, turn_Mirrors.f, and4, and3, h, h4, turn_Do.l0, turn_Do.l1, D, wl1, wl2, wl3, wnn hx, wnn hy]
theorem qPlaceDo (K : Nat) (t ax ay x y : Int) (hx : R x) (hy : R y) : place_Do.f (K + 50) t ax ay x y = some (wrap64 ((D t x y).1 + ax), wrap64 ((D t x y).2 + ay)) := by
  simp only [place_Do.f, qTurnDo K _ _ _ hx hy, Option.bind_some]
theorem qPlaceBox (K : Nat) (t ax ay a b c d : Int) (ha : R a) (hb : R b) (hc : R c) (hd : R d) : place_Box.f (K + 50) t ax ay a b c d = some (bxm t ax ay a b c d) := by
  simp only [place_Box.f, qPlaceDo K _ _ _ _ _ ha hb, qPlaceDo K _ _ _ _ _ hc hd, Option.bind_some, mni_eq, mxi_eq, bxm]
theorem qTurnThen (a b : Int) : turn_Then.f a b = some (th a b) := by
  unfold turn_Then.f turn_Mirrors.f th
  simp only [Option.bind_some, xor4, and3, wrap_m4, or34 _ _ (c04 _)]
  simp only [and4]
  by_cases h : b % 8 < 4 <;> simp [h]
theorem qPlaceThen (K : Nat) (t x y t' x' y' : Int) (hx : R x) (hy : R y) : place_Then.f (K + 50) t x y t' x' y' = some (th t t', wrap64 ((D t' x y).1 + x'), wrap64 ((D t' x y).2 + y')) := by
  simp only [place_Then.f, qPlaceDo K _ _ _ _ _ hx hy, qTurnThen, Option.bind_some]
theorem qAtNo (K : Nat) (j0 : ByteArray) (j1 j2 j3 j4 j5 j6 j7 j8 j9 j10 j11 j12 j13 : Int) (j14 j15 : Ov) (j16 j17 j18 j19 j20 j21 j22 j23 j24 j25 j26 j27 j28 j29 j30 j31 j32 : Int) (c r : Int) (o : Ov) (h : ¬ (B15 j0 j1 j2 j3 j4 j5 j6 j7 j8 j9 j10 j11 j12 j13 j14 j15 j16 j17 j18 j19 j20 j21 j22 j23 j24 j25 j26 j27 j28 j29 j30 j31 j32 ∧ 0 < pan c r)) : area_At.f (K + 50) j0 j1 j2 j3 j4 j5 j6 j7 j8 j9 j10 j11 j12 j13 j14 j15 j16 j17 j18 j19 j20 j21 j22 j23 j24 j25 j26 j27 j28 j29 j30 j31 j32 c r o = some (0, 0, 0) := by
  unfold area_At.f
  rcases qMay j0 j1 j2 j3 j4 j5 j6 j7 j8 j9 j10 j11 j12 j13 j14 j15 j16 j17 j18 j19 j20 j21 j22 j23 j24 j25 j26 j27 j28 j29 j30 j31 j32 c r o with ⟨h1, h2, e⟩ | ⟨_, e⟩
  · exact absurd ⟨h1, h2⟩ h
  · rw [e]; rfl
theorem qAt (K : Nat) (j0 : ByteArray) (j1 j2 j3 j4 j5 j6 j7 j8 j9 j10 j11 j12 j13 : Int) (j14 j15 : Ov) (j16 j17 j18 j19 j20 j21 j22 j23 j24 j25 j26 j27 j28 j29 j30 j31 j32 : Int) (c r : Int) (o : Ov) (h : B15 j0 j1 j2 j3 j4 j5 j6 j7 j8 j9 j10 j11 j12 j13 j14 j15 j16 j17 j18 j19 j20 j21 j22 j23 j24 j25 j26 j27 j28 j29 j30 j31 j32) (hp : 0 < pan c r) : area_At.f (K + 50) j0 j1 j2 j3 j4 j5 j6 j7 j8 j9 j10 j11 j12 j13 j14 j15 j16 j17 j18 j19 j20 j21 j22 j23 j24 j25 j26 j27 j28 j29 j30 j31 j32 c r o = some (att j25 (reg j16 j17 j18 (are j16 j17 j18 j19 j20 j21)) (out j25 (blk (psz j4 j9 j10 j5 j7 j8).1 (psz j4 j9 j10 j5 j7 j8).2 c r (cps j11)))) := by
  unfold area_At.f
  rcases qMay j0 j1 j2 j3 j4 j5 j6 j7 j8 j9 j10 j11 j12 j13 j14 j15 j16 j17 j18 j19 j20 j21 j22 j23 j24 j25 j26 j27 j28 j29 j30 j31 j32 c r o with ⟨h1, h2, e⟩ | ⟨h', _⟩
  case inr => exact absurd ⟨h, hp⟩ h'
  have hq := may_q j0 j1 j2 j3 j4 j5 j6 j7 j8 j9 j10 j11 j12 j13 j14 j15 j16 j17 j18 j19 j20 j21 j22 j23 j24 j25 j26 j27 j28 j29 j30 j31 j32 h
  have hB := may_blk j0 j1 j2 j3 j4 j5 j6 j7 j8 j9 j10 j11 j12 j13 j14 j15 j16 j17 j18 j19 j20 j21 j22 j23 j24 j25 j26 j27 j28 j29 j30 j31 j32 c r h hp
  have R0 : R 0 := by unfold R; omega
  have hR := blk_R (psz j4 j9 j10 j5 j7 j8).1 (psz j4 j9 j10 j5 j7 j8).2 c r (cps j11)
  rw [e, Option.bind_some, if_neg (by decide), qOuter j0 j1 j2 j3 j4 j5 j6 j7 j8 j9 j10 j11 j12 j13 j14 j15 j16 j17 j18 j19 j20 j21 j22 j23 j24 j25 j26 j27 j28 j29 j30 j31 j32 c r o h hp, Option.bind_some, qRegion, Option.bind_some, qWhole]
  generalize (blk (psz j4 j9 j10 j5 j7 j8).1 (psz j4 j9 j10 j5 j7 j8).2 c r (cps j11)) = b at *
  generalize (reg j16 j17 j18 (are j16 j17 j18 j19 j20 j21)) = g
  simp only [box_Size.f, Option.bind_some, qPlaceBox K _ _ _ _ _ _ _ R0 R0 hR.1 hR.2, place_Move.f, qPlaceThen K _ _ _ _ _ _ R0 R0]
  obtain ⟨bw, bh⟩ := b
  simp only at hB
  have e0 (x : Int) : wrap64 (0 + wrap64 x) = wrap64 x := by rw [Int.zero_add, wrap_wrap]
  have hc : j25 = 0 ∨ j25 = 1 ∨ j25 = 2 ∨ j25 = 3 := by omega
  have n1 : wrap64 (-bw) = -bw := wrap_id (by omega) (by omega)
  have n2 : wrap64 (-bh) = -bh := wrap_id (by omega) (by omega)
  have n3 : wrap64 bw = bw := wrap_id (by omega) (by omega)
  have n4 : wrap64 bh = bh := wrap_id (by omega) (by omega)
  have m1 : min 0 bw = 0 := by omega
  have m2 : min 0 bh = 0 := by omega
  have m3 : min 0 (-bw) = -bw := by omega
  have m4 : min 0 (-bh) = -bh := by omega
  rcases hc with e | e | e | e <;> rw [e] <;>
    simp [out, att, th, bxm, D, n1, n2, n3, n4, m1, m2, m3, m4, wl0, wrap_wrap, Int.sub_neg]
theorem qFlip (j0 : ByteArray) (j1 j2 j3 j4 j5 j6 j7 j8 j9 j10 j11 j12 j13 : Int) (j14 j15 : Ov) (j16 j17 j18 j19 j20 j21 j22 j23 j24 j25 j26 j27 j28 j29 j30 j31 j32 : Int) : style_Flip.f j0 j1 j2 j3 j4 j5 j6 j7 j8 j9 j10 j11 j12 j13 j14 j15 j16 j17 j18 j19 j20 j21 j22 j23 j24 j25 j26 j27 j28 j29 j30 j31 j32 = some (flp j16 j17 j18) := by
  unfold style_Flip.f
  simp only [qPlates, qacross, Option.bind_some, place_FlipY.f, place_FlipX.f, flp]
  by_cases h : plt j16 = 0
  · simp [h]
  · by_cases h' : j16 = 2 ∨ j16 = 4 <;> simp [h, h']
theorem qTurnBack (a : Int) : turn_Back.f a = some (bk a) := by
  unfold turn_Back.f turn_Mirrors.f bk
  simp only [Option.bind_some, and4, and7, and3]
  by_cases h : a % 8 < 4
  · simp [h]; unfold wrap64; omega
  · simp [h]
theorem qPlaceBack (K : Nat) (t x y : Int) (hx : R x) (hy : R y) : place_Back.f (K + 50) t x y = some (bk t, wrap64 (-(D (bk t) x y).1), wrap64 (-(D (bk t) x y).2)) := by
  simp only [place_Back.f, qTurnBack, qTurnDo K _ _ _ hx hy, Option.bind_some, Int.zero_sub]
theorem q04_high (a b : Int) : gatherumref04_high.f a b = some (max a b) := by
  unfold gatherumref04_high.f
  by_cases h : b < a
  · rw [if_pos (by simpa using h)]; congr 1; omega
  · rw [if_neg (by simpa using h)]; congr 1; omega
theorem q04_low (a b : Int) : gatherumref04_low.f a b = some (min a b) := by
  unfold gatherumref04_low.f
  by_cases h : a < b
  · rw [if_pos (by simpa using h)]; congr 1; omega
  · rw [if_neg (by simpa using h)]; congr 1; omega
theorem tm4 (x : Int) (h : 0 ≤ x) : Int.tmod x 4 = x % 4 := Int.tmod_eq_emod_of_nonneg h
theorem q03_Of (K : Nat) (t : Int) : gatherumref03_Of.f (K + 50) t = some (M t) := by
  rcases eight t with h | h | h | h | h | h | h | h <;>
    simp [gatherumref03_Of.f, and7, h, gatherumref03_Of.l0, gatherumref03_Of.l1, M, wl0, wl1, wl2, wl3, wm1, tm4]
theorem q03_Do (t x y : Int) (hx : R x) (hy : R y) : gatherumref03_Do.f (M t).1 (M t).2.1 (M t).2.2.1 (M t).2.2.2 x y = some (D t x y) := by
  have h1 : wrap64 x = x := R_id hx
  have h2 : wrap64 y = y := R_id hy
  rcases eight t with h | h | h | h | h | h | h | h <;>
    simp [gatherumref03_Do.f, M, D, h, wl0, h1, h2, wrap_wrap, wnn hx, wnn hy]
theorem q04_Do (K : Nat) (t ax ay x y : Int) (hx : R x) (hy : R y) : gatherumref04_Do.f (K + 50) t ax ay x y = some (wrap64 ((D t x y).1 + ax), wrap64 ((D t x y).2 + ay)) := by
  simp only [gatherumref04_Do.f, q03_Of K t, Option.bind_some, q03_Do t x y hx hy]
theorem q04_Box (K : Nat) (t ax ay a b c d : Int) (ha : R a) (hb : R b) (hc : R c) (hd : R d) : gatherumref04_Box.f (K + 50) t ax ay a b c d = some (bxm t ax ay a b c d) := by
  simp only [gatherumref04_Box.f, q04_Do K _ _ _ _ _ ha hb, q04_Do K _ _ _ _ _ hc hd, Option.bind_some, q04_low, q04_high, bxm]
theorem qbEmpty (a b c d : Int) : box_Empty.f a b c d = some (decide (emp a b c d)) := by
  unfold box_Empty.f emp
  by_cases h : c ≤ a <;> simp [h]
theorem qbMeet (a b c d a' b' c' d' : Int) : box_Meet.f a b c d a' b' c' d' = some (mt a b c d a' b' c' d') := by
  simp only [box_Meet.f, qbEmpty, Option.bind_some, mni_eq, mxi_eq, mt]
  by_cases h : emp (max a a') (max b b') (min c c') (min d d') <;> simp [h]
theorem q04_Meet (a b c d a' b' c' d' : Int) : gatherumref04_Meet.f a b c d a' b' c' d' = some (mt a b c d a' b' c' d') := by
  simp only [gatherumref04_Meet.f, q04_low, q04_high, q04_Empty, Option.bind_some, mt]
  by_cases h : emp (max a a') (max b b') (min c c') (min d d') <;> simp [h]
theorem q03Then (a b : Int) : gatherumref03_Then.f (M a).1 (M a).2.1 (M a).2.2.1 (M a).2.2.2 (M b).1 (M b).2.1 (M b).2.2.1 (M b).2.2.2 = some (M (th a b)) := by
  obtain ⟨x, hx⟩ := fin8 a
  obtain ⟨y, hy⟩ := fin8 b
  rw [M_red a, M_red b, th_red a b, hx, hy]
  have key : ∀ x y : Fin 8, gatherumref03_Then.f (M x.1).1 (M x.1).2.1 (M x.1).2.2.1 (M x.1).2.2.2 (M y.1).1 (M y.1).2.1 (M y.1).2.2.1 (M y.1).2.2.2 = some (M (th x.1 y.1)) := by decide +kernel
  exact key x y
theorem th_least (t i : Int) (h0 : 0 ≤ i) (h : i < bk t) : th t i ≠ 0 := by
  obtain ⟨x, hx⟩ := fin8 t
  have hb := bk_bounds t
  rw [bk_red, hx] at h hb
  obtain ⟨n, rfl⟩ : ∃ n : Fin 8, i = (n.1 : Int) := ⟨⟨i.toNat, by omega⟩, by simp; omega⟩
  rw [th_red, hx]
  have key : ∀ x n : Fin 8, (n.1 : Int) < bk x.1 → th x.1 ((n.1 : Int) % 8) ≠ 0 := by decide +kernel
  exact key x n h
theorem M_zero (a : Int) : ((M a).1 == (M 0).1 && ((M a).2.1 == (M 0).2.1 && ((M a).2.2.1 == (M 0).2.2.1 && ((M a).2.2.2 == (M 0).2.2.2)))) = decide (a % 8 = 0) := by
  obtain ⟨x, hx⟩ := fin8 a
  rw [M_red a, hx]
  have key : ∀ x : Fin 8, ((M x.1).1 == (M 0).1 && ((M x.1).2.1 == (M 0).2.1 && ((M x.1).2.2.1 == (M 0).2.2.1 && ((M x.1).2.2.2 == (M 0).2.2.2)))) = decide ((x.1 : Int) = 0) := by decide +kernel
  exact key x
theorem q04BackLoop (K : Nat) (t x y : Int) (hx : R x) (hy : R y) (d : Nat) : ∀ (k : Nat) (i : Int), 0 ≤ i → i ≤ bk t → bk t - i = d → gatherumref04_Back.l0 (K + 50) t x y (k + d + 1) i = some (bk t, wrap64 (-(D (bk t) x y).1), wrap64 (-(D (bk t) x y).2)) := by
  have hb := bk_bounds t
  induction d with
  | zero =>
    intro k i h0 h1 hd
    obtain rfl : i = bk t := by omega
    have ht : th t (bk t) = 0 := (th_back t).1
    simp only [gatherumref04_Back.l0, Nat.add_zero, q03_Of K, q03Then, Option.bind_some, M_zero, ht, Int.zero_emod, decide_true, if_true, q03_Do _ _ _ hx hy, Int.zero_sub]
    rw [if_pos (by simp; omega)]
  | succ d ih =>
    intro k i h0 h1 hd
    have hne : th t i % 8 ≠ 0 := by have := th_bounds t i; have := th_least t i h0 (by omega); omega
    rw [show k + (d + 1) + 1 = (k + d + 1) + 1 by omega]
    rw [gatherumref04_Back.l0]
    simp only [q03_Of K, q03Then, Option.bind_some, M_zero, decide_eq_false hne, Bool.false_eq_true, if_false]
    rw [if_pos (by simp; omega), wrap_id (by omega) (by omega)]
    exact ih k (i + 1) (by omega) (by omega) (by omega)
theorem q04Back (K : Nat) (t x y : Int) (hx : R x) (hy : R y) : gatherumref04_Back.f (K + 50) t x y = some (bk t, wrap64 (-(D (bk t) x y).1), wrap64 (-(D (bk t) x y).2)) := by
  have hb := bk_bounds t
  have h := q04BackLoop K t x y hx hy (bk t).toNat (K + 49 - (bk t).toNat) 0 (by omega) hb.1 (by omega)
  rw [show K + 49 - (bk t).toNat + (bk t).toNat + 1 = K + 50 by omega] at h
  exact h
theorem q38KeepNo (K : Nat) (x0 y0 x1 y1 t ax ay l0 l1 l2 l3 a b c d : Int) (r1 : R x0) (r2 : R y0) (r3 : R x1) (r4 : R y1) (hL : bxm t ax ay x0 y0 x1 y1 = (l0, l1, l2, l3)) (he : ¬ emp x0 y0 x1 y1) (hm : emp (max l0 a) (max l1 b) (min l2 c) (min l3 d)) :
    gatherumref38_Keep.f (K + 50) x0 y0 x1 y1 t ax ay a b c d = some (0, 0, 0, 0, 0, 0, 0, false) := by
  have h0 : emp 0 0 0 0 := by unfold emp; omega
  simp only [gatherumref38_Keep.f, gatherumref38_Lies.f, q04_Box K _ _ _ _ _ _ _ r1 r2 r3 r4, hL, Option.bind_some, q04_Meet, q04_Empty, mt, if_pos hm, he, decide_false, Bool.false_eq_true, if_false, h0, decide_true, if_true]
theorem q38KeepYes (K : Nat) (x0 y0 x1 y1 t ax ay l0 l1 l2 l3 a b c d : Int) (r1 : R x0) (r2 : R y0) (r3 : R x1) (r4 : R y1) (r5 : R ax) (r6 : R ay) (hL : bxm t ax ay x0 y0 x1 y1 = (l0, l1, l2, l3)) (he : ¬ emp x0 y0 x1 y1) (hab : a < c) (hcd : b < d) (h0 : l0 ≤ a) (h1 : l1 ≤ b) (h2 : c ≤ l2) (h3 : d ≤ l3) (ra : R a) (rb : R b) (rc : R c) (rd : R d)
    (p q r s : Int) (e1 : bxm (bk t) (wrap64 (-(D (bk t) ax ay).1)) (wrap64 (-(D (bk t) ax ay).2)) a b c d = (p, q, r, s)) :
    gatherumref38_Keep.f (K + 50) x0 y0 x1 y1 t ax ay a b c d = some (p, q, r, s, t, ax, ay, true) := by
  have hm : ¬ emp a b c d := by unfold emp; omega
  simp only [gatherumref38_Keep.f, gatherumref38_Lies.f, q04_Box K _ _ _ _ _ _ _ r1 r2 r3 r4, hL, Option.bind_some, q04_Meet, q04_Empty, mt, show max l0 a = a by omega, show max l1 b = b by omega, show min l2 c = c by omega, show min l3 d = d by omega, if_neg hm, hm, he, decide_false, Bool.false_eq_true, if_false, q04Back K _ _ _ r5 r6, q04_Box K _ _ _ _ _ _ _ ra rb rc rd, e1]
theorem q03Turn (K : Nat) (a : Int) : gatherumref03_Turn.f (K + 50) (M a).1 (M a).2.1 (M a).2.2.1 (M a).2.2.2 = some (a % 8) := by
  have e1 : wrap64 (1 + 1) = 2 := wl2
  have e2 : wrap64 (2 + 1) = 3 := wl3
  have e3 : wrap64 (3 + 1) = 4 := by decide +kernel
  have e4 : wrap64 (4 + 1) = 5 := by decide +kernel
  have e5 : wrap64 (5 + 1) = 6 := by decide +kernel
  have e6 : wrap64 (6 + 1) = 7 := by decide +kernel
  rcases eight a with h | h | h | h | h | h | h | h <;>
    simp [gatherumref03_Turn.f, gatherumref03_Turn.l0, q03_Of K, M, h, wl1, e1, e2, e3, e4, e5, e6, show wrap64 2 = 2 from wl2, show wrap64 3 = 3 from wl3, show wrap64 4 = 4 from e3, show wrap64 5 = 5 from e4, show wrap64 6 = 6 from e5, show wrap64 7 = 7 from e6]
theorem q04Then (K : Nat) (t x y t' x' y' : Int) (hx : R x) (hy : R y) : gatherumref04_Then.f (K + 50) t x y t' x' y' = some (th t t', wrap64 ((D t' x y).1 + x'), wrap64 ((D t' x y).2 + y')) := by
  have hb := th_bounds t t'
  have hm : th t t' % 8 = th t t' := by omega
  simp only [gatherumref04_Then.f, q04_Do K _ _ _ _ _ hx hy, q03_Of K, q03Then, q03Turn K, Option.bind_some, hm]
def nearP (x0 y0 x1 y1 t ax ay : Int) : Prop := (-1099511627776 ≤ x0 ∧ x0 ≤ 1099511627776) ∧ (-1099511627776 ≤ y0 ∧ y0 ≤ 1099511627776) ∧ (-1099511627776 ≤ x1 ∧ x1 ≤ 1099511627776) ∧ (-1099511627776 ≤ y1 ∧ y1 ≤ 1099511627776) ∧ (-1099511627776 ≤ ax ∧ ax ≤ 1099511627776) ∧ (-1099511627776 ≤ ay ∧ ay ≤ 1099511627776) ∧ 0 ≤ t ∧ t ≤ 7
instance (x0 y0 x1 y1 t ax ay : Int) : Decidable (nearP x0 y0 x1 y1 t ax ay) := by unfold nearP; infer_instance
theorem eightv (t : Int) (h : 0 ≤ t ∧ t ≤ 7) : t = 0 ∨ t = 1 ∨ t = 2 ∨ t = 3 ∨ t = 4 ∨ t = 5 ∨ t = 6 ∨ t = 7 := by omega
theorem wS {x : Int} (h : -1000000000000000000 ≤ x ∧ x ≤ 1000000000000000000) : wrap64 x = x := wrap_id (by omega) (by omega)
set_option maxHeartbeats 4000000 in
/-- What lies within where a near rectangle lies, is brought back into the rectangle, and from there to where it was. -/
theorem bx_back (x0 y0 x1 y1 t ax ay a b c d : Int) (hn : nearP x0 y0 x1 y1 t ax ay) (hx : x0 < x1) (hy : y0 < y1) (hab : a < c) (hcd : b < d)
    (l0 : (bxm t ax ay x0 y0 x1 y1).1 ≤ a) (l1 : (bxm t ax ay x0 y0 x1 y1).2.1 ≤ b) (l2 : c ≤ (bxm t ax ay x0 y0 x1 y1).2.2.1) (l3 : d ≤ (bxm t ax ay x0 y0 x1 y1).2.2.2) :
    ∃ p q r s, bxm (bk t) (wrap64 (-(D (bk t) ax ay).1)) (wrap64 (-(D (bk t) ax ay).2)) a b c d = (p, q, r, s) ∧ bxm t ax ay p q r s = (a, b, c, d) ∧ x0 ≤ p ∧ r ≤ x1 ∧ y0 ≤ q ∧ s ≤ y1 ∧ p < r ∧ q < s := by
  obtain ⟨⟨h1, h2⟩, ⟨h3, h4⟩, ⟨h5, h6⟩, ⟨h7, h8⟩, ⟨h9, h10⟩, ⟨h11, h12⟩, h13⟩ := hn
  have r1 : wrap64 (-x0) = -x0 := wS (by omega)
  have r2 : wrap64 (-y0) = -y0 := wS (by omega)
  have r3 : wrap64 (-x1) = -x1 := wS (by omega)
  have r4 : wrap64 (-y1) = -y1 := wS (by omega)
  have r5 : wrap64 (-ax) = -ax := wS (by omega)
  have r6 : wrap64 (-ay) = -ay := wS (by omega)
  rcases eightv t h13 with rfl | rfl | rfl | rfl | rfl | rfl | rfl | rfl
  all_goals
    simp only [bxm, D, bk, Int.reduceMod, Int.reduceNeg, Int.reduceLT, Int.reduceEq, if_true, if_false, r1, r2, r3, r4, r5, r6] at l0 l1 l2 l3 ⊢
    simp (disch := omega) only [wS, Int.neg_neg] at l0 l1 l2 l3
    have ha : -10000000000000 ≤ a ∧ a ≤ 10000000000000 := by omega
    have hb : -10000000000000 ≤ b ∧ b ≤ 10000000000000 := by omega
    have hc : -10000000000000 ≤ c ∧ c ≤ 10000000000000 := by omega
    have hd : -10000000000000 ≤ d ∧ d ≤ 10000000000000 := by omega
    refine ⟨_, _, _, _, rfl, ?_⟩
    simp (disch := omega) only [wS, Int.neg_neg, Prod.mk.injEq]
    refine ⟨⟨?_, ?_, ?_, ?_⟩, ?_, ?_, ?_, ?_, ?_, ?_⟩ <;> omega
theorem R_max {a b : Int} (h : R a) (h' : R b) : R (max a b) := ⟨by have := h.1; omega, by have := h.2; have := h'.2; omega⟩
theorem R_min {a b : Int} (h : R a) (h' : R b) : R (min a b) := ⟨by have := h.1; have := h'.1; omega, by have := h.2; omega⟩
theorem bxm_R (t ax ay x0 y0 x1 y1 : Int) : R (bxm t ax ay x0 y0 x1 y1).1 ∧ R (bxm t ax ay x0 y0 x1 y1).2.1 ∧ R (bxm t ax ay x0 y0 x1 y1).2.2.1 ∧ R (bxm t ax ay x0 y0 x1 y1).2.2.2 :=
  ⟨R_min (R_wrap _) (R_wrap _), R_min (R_wrap _) (R_wrap _), R_max (R_wrap _) (R_wrap _), R_max (R_wrap _) (R_wrap _)⟩
theorem qInR (a b c : Int) : gatherumref01_In.f a b c = some (decide (b ≤ a ∧ a ≤ c)) := by
  unfold gatherumref01_In.f
  by_cases h : b ≤ a <;> simp [h]
set_option maxHeartbeats 4000000 in
/-- A near rectangle that is none empty is brought to one that is none. -/
theorem bx_full (x0 y0 x1 y1 t ax ay : Int) (hn : nearP x0 y0 x1 y1 t ax ay) (hx : x0 < x1) (hy : y0 < y1) : (bxm t ax ay x0 y0 x1 y1).1 < (bxm t ax ay x0 y0 x1 y1).2.2.1 ∧ (bxm t ax ay x0 y0 x1 y1).2.1 < (bxm t ax ay x0 y0 x1 y1).2.2.2 := by
  obtain ⟨⟨h1, h2⟩, ⟨h3, h4⟩, ⟨h5, h6⟩, ⟨h7, h8⟩, ⟨h9, h10⟩, ⟨h11, h12⟩, h13⟩ := hn
  rcases eightv t h13 with rfl | rfl | rfl | rfl | rfl | rfl | rfl | rfl
  all_goals
    simp only [bxm, D, Int.reduceMod, Int.reduceNeg, Int.reduceLT, Int.reduceEq, if_true, if_false]
    simp (disch := omega) only [wS]
    omega
set_option maxHeartbeats 4000000 in
/-- What is brought apart is apart. -/
theorem bx_apart (x0 y0 x1 y1 t ax ay p q r s p' q' r' s' a b c d a' b' c' d' : Int) (hn : nearP x0 y0 x1 y1 t ax ay) (h : bxm t ax ay p q r s = (a, b, c, d)) (h' : bxm t ax ay p' q' r' s' = (a', b', c', d'))
    (k1 : x0 ≤ p) (k2 : r ≤ x1) (k3 : y0 ≤ q) (k4 : s ≤ y1) (k5 : p < r) (k6 : q < s) (k1' : x0 ≤ p') (k2' : r' ≤ x1) (k3' : y0 ≤ q') (k4' : s' ≤ y1) (k5' : p' < r') (k6' : q' < s') (ha : c ≤ a' ∨ d ≤ b') :
    emp (max p p') (max q q') (min r r') (min s s') := by
  obtain ⟨⟨h1, h2⟩, ⟨h3, h4⟩, ⟨h5, h6⟩, ⟨h7, h8⟩, ⟨h9, h10⟩, ⟨h11, h12⟩, h13⟩ := hn
  unfold emp
  rcases eightv t h13 with rfl | rfl | rfl | rfl | rfl | rfl | rfl | rfl
  all_goals
    simp only [bxm, D, Int.reduceMod, Int.reduceNeg, Int.reduceLT, Int.reduceEq, if_true, if_false, Prod.mk.injEq] at h h'
    simp (disch := omega) only [wS] at h h'
    omega
set_option maxHeartbeats 4000000 in
/-- A near rectangle is brought to a near one. -/
theorem bxm_near (x0 y0 x1 y1 t ax ay : Int) (hn : nearP x0 y0 x1 y1 t ax ay) : (-10000000000000 ≤ (bxm t ax ay x0 y0 x1 y1).1 ∧ (bxm t ax ay x0 y0 x1 y1).1 ≤ 10000000000000) ∧ (-10000000000000 ≤ (bxm t ax ay x0 y0 x1 y1).2.1 ∧ (bxm t ax ay x0 y0 x1 y1).2.1 ≤ 10000000000000) ∧ (-10000000000000 ≤ (bxm t ax ay x0 y0 x1 y1).2.2.1 ∧ (bxm t ax ay x0 y0 x1 y1).2.2.1 ≤ 10000000000000) ∧ (-10000000000000 ≤ (bxm t ax ay x0 y0 x1 y1).2.2.2 ∧ (bxm t ax ay x0 y0 x1 y1).2.2.2 ≤ 10000000000000) := by
  obtain ⟨⟨h1, h2⟩, ⟨h3, h4⟩, ⟨h5, h6⟩, ⟨h7, h8⟩, ⟨h9, h10⟩, ⟨h11, h12⟩, h13⟩ := hn
  rcases eightv t h13 with rfl | rfl | rfl | rfl | rfl | rfl | rfl | rfl
  all_goals
    simp only [bxm, D, Int.reduceMod, Int.reduceNeg, Int.reduceLT, Int.reduceEq, if_true, if_false]
    simp (disch := omega) only [wS]
    omega
theorem mt_R {a b c d a' b' c' d' : Int} (h1 : R a) (h2 : R b) (h3 : R c) (h4 : R d) (h1' : R a') (h2' : R b') (h3' : R c') (h4' : R d') : R (mt a b c d a' b' c' d').1 ∧ R (mt a b c d a' b' c' d').2.1 ∧ R (mt a b c d a' b' c' d').2.2.1 ∧ R (mt a b c d a' b' c' d').2.2.2 := by
  have h0 : R 0 := by unfold R; omega
  unfold mt
  split
  · exact ⟨h0, h0, h0, h0⟩
  · exact ⟨R_max h1 h1', R_max h2 h2', R_min h3 h3', R_min h4 h4'⟩
/-- What is left of a layer in a rectangle. -/
def kp (x0 y0 x1 y1 t ax ay a b c d : Int) : Int × Int × Int × Int × Int × Int × Int × Bool :=
  let l := bxm t ax ay x0 y0 x1 y1
  let m := mt l.1 l.2.1 l.2.2.1 l.2.2.2 a b c d
  if emp x0 y0 x1 y1 then (0, 0, 0, 0, 0, 0, 0, false) else if emp m.1 m.2.1 m.2.2.1 m.2.2.2 then (0, 0, 0, 0, 0, 0, 0, false) else
    let r := bxm (bk t) (wrap64 (-(D (bk t) ax ay).1)) (wrap64 (-(D (bk t) ax ay).2)) m.1 m.2.1 m.2.2.1 m.2.2.2
    (r.1, r.2.1, r.2.2.1, r.2.2.2, t, ax, ay, true)
theorem kp_R (x0 y0 x1 y1 t ax ay a b c d : Int) (r5 : R ax) (r6 : R ay) : R (kp x0 y0 x1 y1 t ax ay a b c d).2.2.2.2.2.1 ∧ R (kp x0 y0 x1 y1 t ax ay a b c d).2.2.2.2.2.2.1 := by
  have h0 : R 0 := by unfold R; omega
  unfold kp
  by_cases he : emp x0 y0 x1 y1
  · simp only [he, if_true]; exact ⟨h0, h0⟩
  · simp only [he, if_false]
    split
    · exact ⟨h0, h0⟩
    · exact ⟨r5, r6⟩
theorem qKeep (K : Nat) (x0 y0 x1 y1 t ax ay a b c d : Int) (r1 : R x0) (r2 : R y0) (r3 : R x1) (r4 : R y1) (r5 : R ax) (r6 : R ay) (ra : R a) (rb : R b) (rc : R c) (rd : R d) :
    layer_Keep.f (K + 50) x0 y0 x1 y1 t ax ay a b c d = some (kp x0 y0 x1 y1 t ax ay a b c d) := by
  have hL := bxm_R t ax ay x0 y0 x1 y1
  have hm := mt_R hL.1 hL.2.1 hL.2.2.1 hL.2.2.2 ra rb rc rd
  simp only [layer_Keep.f, layer_Lies.f, qPlaceBox K _ _ _ _ _ _ _ r1 r2 r3 r4, Option.bind_some, qbMeet, qbEmpty, kp]
  generalize bxm t ax ay x0 y0 x1 y1 = L at *
  generalize mt L.1 L.2.1 L.2.2.1 L.2.2.2 a b c d = m at *
  by_cases he : emp x0 y0 x1 y1
  · simp [he]
  · by_cases hq : emp m.1 m.2.1 m.2.2.1 m.2.2.2
    · simp [he, hq]
    · simp [he, hq, layer_part.f, qPlaceBack K _ _ _ r5 r6, qPlaceBox K _ _ _ _ _ _ _ hm.1 hm.2.1 hm.2.2.1 hm.2.2.2]
theorem q38Keep (K : Nat) (x0 y0 x1 y1 t ax ay a b c d : Int) (r1 : R x0) (r2 : R y0) (r3 : R x1) (r4 : R y1) (r5 : R ax) (r6 : R ay) (ra : R a) (rb : R b) (rc : R c) (rd : R d) :
    gatherumref38_Keep.f (K + 50) x0 y0 x1 y1 t ax ay a b c d = some (kp x0 y0 x1 y1 t ax ay a b c d) := by
  have hL := bxm_R t ax ay x0 y0 x1 y1
  have hm := mt_R hL.1 hL.2.1 hL.2.2.1 hL.2.2.2 ra rb rc rd
  simp only [gatherumref38_Keep.f, gatherumref38_Lies.f, q04_Box K _ _ _ _ _ _ _ r1 r2 r3 r4, Option.bind_some, q04_Meet, q04_Empty, kp]
  generalize bxm t ax ay x0 y0 x1 y1 = L at *
  generalize mt L.1 L.2.1 L.2.2.1 L.2.2.2 a b c d = m at *
  by_cases he : emp x0 y0 x1 y1
  · simp [he]
  · by_cases hq : emp m.1 m.2.1 m.2.2.1 m.2.2.2
    · simp [he, hq]
    · simp [he, hq, q04Back K _ _ _ r5 r6, q04_Box K _ _ _ _ _ _ _ hm.1 hm.2.1 hm.2.2.1 hm.2.2.2]
theorem alive : gatherumlaw40_alive.f (4950 + 50) = some true := by decide +kernel
/-- The part of column c, row r. -/
def pel (p0 p1 p2 p3 p4 p5 p6 w h x y : Int) (c r : Int) : Int × Int × Int × Int × Int × Int × Int :=
  let X := wrap64 (x + wrap64 (c * w))
  let Y := wrap64 (y + wrap64 (r * h))
  let k := kp p0 p1 p2 p3 p4 p5 p6 X Y (wrap64 (X + w)) (wrap64 (Y + h))
  (k.1, k.2.1, k.2.2.1, k.2.2.2.1, th k.2.2.2.2.1 0, wrap64 ((D 0 k.2.2.2.2.2.1 k.2.2.2.2.2.2.1).1 + wrap64 (0 - X)), wrap64 ((D 0 k.2.2.2.2.2.1 k.2.2.2.2.2.2.1).2 + wrap64 (0 - Y)))
def pels (p0 p1 p2 p3 p4 p5 p6 w h x y : Int) (cN n : Nat) : List (Int × Int × Int × Int × Int × Int × Int) := (List.range n).map fun i => pel p0 p1 p2 p3 p4 p5 p6 w h x y ((i % cN : Nat) : Int) ((i / cN : Nat) : Int)
theorem pels_succ (p0 p1 p2 p3 p4 p5 p6 w h x y : Int) (cN n : Nat) : pels p0 p1 p2 p3 p4 p5 p6 w h x y cN (n + 1) = pels p0 p1 p2 p3 p4 p5 p6 w h x y cN n ++ [pel p0 p1 p2 p3 p4 p5 p6 w h x y ((n % cN : Nat) : Int) ((n / cN : Nat) : Int)] := by
  unfold pels; rw [List.range_succ, List.map_append]; rfl
theorem cap_ge : (100000 : Int) ≤ cap2513169434916 := by unfold cap2513169434916; omega
theorem colLoop (K : Nat) (hK : 4950 ≤ K) (p0 p1 p2 p3 p4 p5 p6 w h x y lo : Int) (r0 : R p0) (r1 : R p1) (r2 : R p2) (r3 : R p3) (r5 : R p5) (r6 : R p6) (j0 : Int → List (Int × Int × Int × Int × Int × Int × Int) → Option (List (Int × Int × Int × Int × Int × Int × Int))) (cN r : Nat) (hc : wrap64 (Int.tdiv lo w) = cN) (hcN : cN ≤ 4096) (hr : r * cN + cN ≤ 4096) (rw : R w) (rh : R h) : ∀ (d c k : Nat), c + d = cN → d + 1 ≤ k →
    knife_Panels.l1 (K + 50) j0 p0 p1 p2 p3 p4 p5 p6 w h x y lo (r : Int) k (c : Int) (pels p0 p1 p2 p3 p4 p5 p6 w h x y cN (r * cN + c)) = j0 (wrap64 ((r : Int) + 1)) (pels p0 p1 p2 p3 p4 p5 p6 w h x y cN (r * cN + cN)) := by
  intro d
  induction d with
  | zero =>
    intro c k hd hk
    obtain ⟨k, rfl⟩ : ∃ k', k = k' + 1 := ⟨k - 1, by omega⟩
    rw [knife_Panels.l1, hc, if_neg (by simp; omega)]
    rw [show c = cN by omega]
  | succ d ih =>
    intro c k hd hk
    obtain ⟨k, rfl⟩ : ∃ k', k = k' + 1 := ⟨k - 1, by omega⟩
    have hk1 := kp_R p0 p1 p2 p3 p4 p5 p6 (wrap64 (x + wrap64 ((c : Int) * w))) (wrap64 (y + wrap64 ((r : Int) * h))) (wrap64 (wrap64 (x + wrap64 ((c : Int) * w)) + w)) (wrap64 (wrap64 (y + wrap64 ((r : Int) * h)) + h)) r5 r6
    rw [knife_Panels.l1, hc, if_pos (by simp; omega)]
    rw [show box_Of.f (wrap64 (x + wrap64 ((c : Int) * w))) (wrap64 (y + wrap64 ((r : Int) * h))) w h = some (wrap64 (x + wrap64 ((c : Int) * w)), wrap64 (y + wrap64 ((r : Int) * h)), wrap64 (wrap64 (x + wrap64 ((c : Int) * w)) + w), wrap64 (wrap64 (y + wrap64 ((r : Int) * h)) + h)) from rfl, Option.bind_some,
      qKeep K p0 p1 p2 p3 p4 p5 p6 _ _ _ _ r0 r1 r2 r3 r5 r6 (R_wrap _) (R_wrap _) (R_wrap _) (R_wrap _), Option.bind_some, show ∀ a b : Int, place_Move.f a b = some (0, a, b) from fun _ _ => rfl, Option.bind_some, layer_Lay.f, qPlaceThen K _ _ _ _ _ _ hk1.1 hk1.2, Option.bind_some, Option.bind_some]
    have hlen : (pels p0 p1 p2 p3 p4 p5 p6 w h x y cN (r * cN + c)).length = r * cN + c := by unfold pels; simp
    have hlt : r * cN + c < 4096 := by omega
    have hcap : (((pels p0 p1 p2 p3 p4 p5 p6 w h x y cN (r * cN + c)).length + 1 : Nat) : Int) ≤ cap2513169434916 := by
      have h1 := cap_ge
      rw [hlen]
      generalize cap2513169434916 = C at *
      omega
    rw [if_pos (decide_eq_true hcap)]
    have hm : (r * cN + c) % cN = c := by rw [Nat.mul_comm, Nat.mul_add_mod]; exact Nat.mod_eq_of_lt (by omega)
    have hq : (r * cN + c) / cN = r := by rw [Nat.mul_comm, Nat.mul_add_div (by omega), Nat.div_eq_of_lt (by omega)]; omega
    have hs := pels_succ p0 p1 p2 p3 p4 p5 p6 w h x y cN (r * cN + c)
    rw [hm, hq] at hs
    have e : wrap64 ((c : Int) + 1) = ((c + 1 : Nat) : Int) := by rw [wrap_id (by omega) (by omega)]; omega
    rw [e]
    have := ih (c + 1) k (by omega) (by omega)
    rw [show r * cN + (c + 1) = r * cN + c + 1 by omega, hs] at this
    refine Eq.trans (congrArg (fun v => knife_Panels.l1 (K + 50) j0 p0 p1 p2 p3 p4 p5 p6 w h x y lo (r : Int) k ((c + 1 : Nat) : Int) (pels p0 p1 p2 p3 p4 p5 p6 w h x y cN (r * cN + c) ++ [v])) ?_) this
    simp only [pel]
theorem rowLoop (K : Nat) (hK : 4950 ≤ K) (p0 p1 p2 p3 p4 p5 p6 w h x y lo hi : Int) (r0 : R p0) (r1 : R p1) (r2 : R p2) (r3 : R p3) (r5 : R p5) (r6 : R p6) (rw : R w) (rh : R h) (cN rN : Nat) (hc : wrap64 (Int.tdiv lo w) = cN) (hr : wrap64 (Int.tdiv hi h) = rN) (hcN : cN ≤ 4096) (hrN : rN ≤ 4096) (hm : rN * cN ≤ 4096) : ∀ (d r k : Nat), r + d = rN → d + 1 ≤ k →
    knife_Panels.l0 (K + 50) p0 p1 p2 p3 p4 p5 p6 w h x y lo hi k (r : Int) (pels p0 p1 p2 p3 p4 p5 p6 w h x y cN (r * cN)) = some (pels p0 p1 p2 p3 p4 p5 p6 w h x y cN (rN * cN)) := by
  intro d
  induction d with
  | zero =>
    intro r k hd hk
    obtain ⟨k, rfl⟩ : ∃ k', k = k' + 1 := ⟨k - 1, by omega⟩
    rw [knife_Panels.l0, hr, if_neg (by simp; omega)]
    rw [show r = rN by omega]
  | succ d ih =>
    intro r k hd hk
    obtain ⟨k, rfl⟩ : ∃ k', k = k' + 1 := ⟨k - 1, by omega⟩
    rw [knife_Panels.l0, hr, if_pos (by simp; omega)]
    have h1 : (r + 1) * cN ≤ rN * cN := Nat.mul_le_mul_right _ (by omega)
    have h2 : (r + 1) * cN = r * cN + cN := by rw [Nat.add_mul, Nat.one_mul]
    have := colLoop K hK p0 p1 p2 p3 p4 p5 p6 w h x y lo r0 r1 r2 r3 r5 r6 (fun y0 y1 => knife_Panels.l0 (K + 50) p0 p1 p2 p3 p4 p5 p6 w h x y lo hi k y0 y1) cN r hc hcN (by omega) rw rh cN 0 (K + 50) (by omega) (by omega)
    rw [Nat.add_zero] at this
    refine this.trans ?_
    have e : wrap64 ((r : Int) + 1) = ((r + 1 : Nat) : Int) := by rw [wrap_id (by omega) (by omega)]; omega
    rw [e, ← h2]
    exact ih (r + 1) k (by omega) (by omega)
theorem lawLoop (K : Nat) (hK : 4950 ≤ K) (p0 p1 p2 p3 p4 p5 p6 w h x y x2 : Int) (r0 : R p0) (r1 : R p1) (r2 : R p2) (r3 : R p3) (r5 : R p5) (r6 : R p6) (rw : R w) (rh : R h) (cN N : Nat) (hc : wrap64 (Int.tdiv (wrap64 (x2 - x)) w) = cN) (hcp : 0 < cN) (hcN : cN ≤ 4096) (hN : N ≤ 4096) : ∀ (d n k : Nat), n + d = N → d + 1 ≤ k →
    gatherumlaw40_KnifePanels.l0 (K + 50) p0 p1 p2 p3 p4 p5 p6 w h (pels p0 p1 p2 p3 p4 p5 p6 w h x y cN N) x y x2 k (n : Int) = some true := by
  have hlen : (pels p0 p1 p2 p3 p4 p5 p6 w h x y cN N).length = N := by unfold pels; simp
  intro d
  induction d with
  | zero =>
    intro n k hd hk
    obtain ⟨k, rfl⟩ : ∃ k', k = k' + 1 := ⟨k - 1, by omega⟩
    rw [gatherumlaw40_KnifePanels.l0, hlen, if_neg (by simp; omega)]
  | succ d ih =>
    intro n k hd hk
    obtain ⟨k, rfl⟩ : ∃ k', k = k' + 1 := ⟨k - 1, by omega⟩
    have hcz : ¬ ((cN : Int) == 0) = true := by simp; omega
    rw [gatherumlaw40_KnifePanels.l0, hlen, if_pos (by simp; omega), hc, if_neg hcz]
    have t1 : Int.tmod (n : Int) (cN : Int) = ((n % cN : Nat) : Int) := (Int.ofNat_tmod n cN).symm
    have t2 : wrap64 (Int.tdiv (n : Int) (cN : Int)) = ((n / cN : Nat) : Int) := by
      have : n / cN ≤ n := Nat.div_le_self _ _
      rw [← Int.ofNat_tdiv]
      generalize n / cN = q at *
      exact wrap_id (by omega) (by omega)
    have hget : (pels p0 p1 p2 p3 p4 p5 p6 w h x y cN N)[(n : Int).toNat]? = some (pel p0 p1 p2 p3 p4 p5 p6 w h x y ((n % cN : Nat) : Int) ((n / cN : Nat) : Int)) := by
      unfold pels
      rw [Int.toNat_natCast, List.getElem?_map, List.getElem?_range (by omega)]; rfl
    rw [t1, t2, hget]
    have e : wrap64 ((n : Int) + 1) = ((n + 1 : Nat) : Int) := by rw [wrap_id (by omega) (by omega)]; omega
    have hk1 := kp_R p0 p1 p2 p3 p4 p5 p6 (wrap64 (x + wrap64 (((n % cN : Nat) : Int) * w))) (wrap64 (y + wrap64 (((n / cN : Nat) : Int) * h))) (wrap64 (wrap64 (x + wrap64 (((n % cN : Nat) : Int) * w)) + w)) (wrap64 (wrap64 (y + wrap64 (((n / cN : Nat) : Int) * h)) + h)) r5 r6
    have hnn : decide (0 ≤ (n : Int)) = true := by simp
    simp only [gatherumref04_Of.f, Option.bind_some, q38Keep K _ _ _ _ _ _ _ _ _ _ _ r0 r1 r2 r3 r5 r6 (R_wrap _) (R_wrap _) (R_wrap _) (R_wrap _), q04Then K _ _ _ _ _ _ hk1.1 hk1.2, hnn, if_true]
    have eqs : (!((pel p0 p1 p2 p3 p4 p5 p6 w h x y ((n % cN : Nat) : Int) ((n / cN : Nat) : Int)).1 == (pel p0 p1 p2 p3 p4 p5 p6 w h x y ((n % cN : Nat) : Int) ((n / cN : Nat) : Int)).1)) = false := by simp
    rw [if_neg (by simp [pel]), e]
    exact ih (n + 1) k (by omega) (by omega)
set_option maxHeartbeats 4000000 in
theorem KnifePanels (a0_0 : Int) (a0_1 : Int) (a0_2 : Int) (a0_3 : Int) (a0_4 : Int) (a0_5 : Int) (a0_6 : Int) (a1 : Int) (a2 : Int) (w0_0 : (Lit.int .i64 a0_0).wf = true) (w0_1 : (Lit.int .i64 a0_1).wf = true) (w0_2 : (Lit.int .i64 a0_2).wf = true) (w0_3 : (Lit.int .i64 a0_3).wf = true) (w0_4 : (Lit.int .i64 a0_4).wf = true) (w0_5 : (Lit.int .i64 a0_5).wf = true) (w0_6 : (Lit.int .i64 a0_6).wf = true) (w1 : (Lit.int .i64 a1).wf = true) (w2 : (Lit.int .i64 a2).wf = true) : ∃ K : Nat, gatherumlaw40_KnifePanels.f K a0_0 a0_1 a0_2 a0_3 a0_4 a0_5 a0_6 a1 a2 = some true := by
  obtain ⟨K, hK0⟩ : ∃ K : Nat, K = 4950 := ⟨_, rfl⟩
  have alive : gatherumlaw40_alive.f (K + 50) = some true := by rw [hK0]; exact alive
  have hK : 4950 ≤ K := by omega
  clear hK0
  refine ⟨K + 50, ?_⟩
  have x0 := R_of w0_0
  have y0 := R_of w0_1
  have x1 := R_of w0_2
  have y1 := R_of w0_3
  have ax := R_of w0_5
  have ay := R_of w0_6
  have rw_ := R_of w1
  have rh_ := R_of w2
  unfold gatherumlaw40_KnifePanels.f
  simp only [alive, Option.bind_some, Bool.not_true, Bool.false_eq_true, if_false, qInR]
  by_cases h1 : -1099511627776 ≤ a0_0 ∧ a0_0 ≤ 1099511627776
  case neg => simp [h1]
  by_cases h2 : -1099511627776 ≤ a0_1 ∧ a0_1 ≤ 1099511627776
  case neg => simp [h2]
  by_cases h3 : -1099511627776 ≤ a0_2 ∧ a0_2 ≤ 1099511627776
  case neg => simp [h3]
  by_cases h4 : -1099511627776 ≤ a0_3 ∧ a0_3 ≤ 1099511627776
  case neg => simp [h4]
  by_cases h5 : -1099511627776 ≤ a0_5 ∧ a0_5 ≤ 1099511627776
  case neg => simp [h5]
  by_cases h6 : -1099511627776 ≤ a0_6 ∧ a0_6 ≤ 1099511627776
  case neg => simp [h6]
  by_cases h7 : 0 ≤ a0_4 ∧ a0_4 ≤ 7
  case neg => simp [h7]
  have hn : nearP a0_0 a0_1 a0_2 a0_3 a0_4 a0_5 a0_6 := ⟨h1, h2, h3, h4, h5, h6, h7⟩
  simp only [h1, h2, h3, h4, h5, h6, h7, and_self, decide_true, Bool.not_true, Bool.false_eq_true, if_false]
  unfold knife_Panels.f
  simp only [layer_Lies.f, gatherumref38_Lies.f, qPlaceBox K _ _ _ _ _ _ _ x0 y0 x1 y1, q04_Box K _ _ _ _ _ _ _ x0 y0 x1 y1, Option.bind_some, qbEmpty, q04_Empty]
  by_cases he : emp a0_0 a0_1 a0_2 a0_3
  · simp [he]
  have he' := he
  unfold emp at he'
  have hfull := bx_full a0_0 a0_1 a0_2 a0_3 a0_4 a0_5 a0_6 hn (by omega) (by omega)
  have hL := bxm_near a0_0 a0_1 a0_2 a0_3 a0_4 a0_5 a0_6 hn
  generalize bxm a0_4 a0_5 a0_6 a0_0 a0_1 a0_2 a0_3 = L at *
  obtain ⟨l0, l1, l2, l3⟩ := L
  simp only at hfull hL ⊢
  simp only [he, decide_false, Bool.false_eq_true, if_false]
  by_cases hw : a1 < 1
  · simp [hw]
  by_cases hh : a2 < 1
  · simp [hw, hh]
  have hw0 : ¬ (a1 == 0) = true := by simp; omega
  have hh0 : ¬ (a2 == 0) = true := by simp; omega
  simp only [decide_eq_true_eq, if_neg hw, if_neg hh, box_Size.f, Option.bind_some, if_neg hw0, if_neg hh0]
  rw [wS (x := l2 - l0) (by omega), wS (x := l3 - l1) (by omega)]
  by_cases hmw : Int.tmod (l2 - l0) a1 = 0
  case neg => simp [hmw]
  by_cases hmh : Int.tmod (l3 - l1) a2 = 0
  case neg => simp [hmw, hmh]
  have tw : Int.tdiv (l2 - l0) a1 = (l2 - l0) / a1 := Int.tdiv_eq_ediv_of_nonneg (by omega)
  have tH : Int.tdiv (l3 - l1) a2 = (l3 - l1) / a2 := Int.tdiv_eq_ediv_of_nonneg (by omega)
  have bw : 1 ≤ (l2 - l0) / a1 ∧ (l2 - l0) / a1 ≤ l2 - l0 := by
    rw [Int.tmod_eq_emod_of_nonneg (by omega)] at hmw
    refine ⟨?_, Int.ediv_le_self _ (by omega)⟩
    have := Int.mul_ediv_add_emod (l2 - l0) a1
    rw [hmw] at this
    rcases Int.lt_or_le 0 ((l2 - l0) / a1) with h | h
    · omega
    · have := Int.mul_le_mul_of_nonneg_left h (show 0 ≤ a1 by omega); omega
  have bh : 1 ≤ (l3 - l1) / a2 ∧ (l3 - l1) / a2 ≤ l3 - l1 := by
    rw [Int.tmod_eq_emod_of_nonneg (by omega)] at hmh
    refine ⟨?_, Int.ediv_le_self _ (by omega)⟩
    have := Int.mul_ediv_add_emod (l3 - l1) a2
    rw [hmh] at this
    rcases Int.lt_or_le 0 ((l3 - l1) / a2) with h | h
    · omega
    · have := Int.mul_le_mul_of_nonneg_left h (show 0 ≤ a2 by omega); omega
  have ew : wrap64 (Int.tdiv (l2 - l0) a1) = (l2 - l0) / a1 := by rw [tw, wS (by omega)]
  have eh : wrap64 (Int.tdiv (l3 - l1) a2) = (l3 - l1) / a2 := by rw [tH, wS (by omega)]
  have hl1 : ¬ (l2 - l0 < 1) := by omega
  have hl2 : ¬ (l3 - l1 < 1) := by omega
  simp only [hmw, hmh, beq_self_eq_true, Bool.not_true, Bool.false_eq_true, if_false, if_neg hl1, if_neg hl2, ew, eh]
  by_cases g1 : 4096 < (l2 - l0) / a1
  · simp [g1]
  by_cases g2 : 4096 < (l3 - l1) / a2
  · simp [g1, g2]
  obtain ⟨cN, hcN⟩ : ∃ n : Nat, (l2 - l0) / a1 = n := ⟨((l2 - l0) / a1).toNat, by omega⟩
  obtain ⟨rN, hrN⟩ : ∃ n : Nat, (l3 - l1) / a2 = n := ⟨((l3 - l1) / a2).toNat, by omega⟩
  have hp : (rN : Int) * cN ≤ 16777216 := Int.le_trans (Int.mul_le_mul (show (rN : Int) ≤ 4096 by omega) (show (cN : Int) ≤ 4096 by omega) (by omega) (by omega)) (by decide)
  have hp0 : 0 ≤ (rN : Int) * cN := Int.mul_nonneg (by omega) (by omega)
  have ep : wrap64 ((cN : Int) * (rN : Int)) = ((rN * cN : Nat) : Int) := by rw [Int.mul_comm, wS (by omega)]; simp
  simp only [if_neg g1, if_neg g2]
  rw [hcN, hrN]
  rw [hcN] at g1 bw
  rw [hrN] at g2 bh
  rw [ep]
  by_cases g3 : (4096 : Int) < ((rN * cN : Nat) : Int)
  · simp only [if_pos g3, Option.bind_some]; rfl
  have hb : rN * cN ≤ 4096 := by exact_mod_cast Int.not_lt.mp g3
  simp only [if_neg g3]
  clear hp hp0 g3
  have h0 : ([] : List (Int × Int × Int × Int × Int × Int × Int)) = pels a0_0 a0_1 a0_2 a0_3 a0_4 a0_5 a0_6 a1 a2 l0 l1 cN (0 * cN) := by simp [pels]
  have RL := rowLoop K hK a0_0 a0_1 a0_2 a0_3 a0_4 a0_5 a0_6 a1 a2 l0 l1 (l2 - l0) (l3 - l1) x0 y0 x1 y1 ax ay rw_ rh_ cN rN (ew.trans hcN) (eh.trans hrN) (by omega) (by omega) hb rN 0 (K + 50) (by omega) (by omega)
  rw [h0, show (0 : Int) = ((0 : Nat) : Int) from rfl, RL, Option.bind_some]
  have hlen : (pels a0_0 a0_1 a0_2 a0_3 a0_4 a0_5 a0_6 a1 a2 l0 l1 cN (rN * cN)).length = rN * cN := by unfold pels; simp
  rw [hlen, if_neg (by simp)]
  have hx2 : wrap64 (Int.tdiv (wrap64 (l2 - l0)) a1) = cN := by rw [wS (x := l2 - l0) (by omega)]; exact ew.trans hcN
  exact lawLoop K hK a0_0 a0_1 a0_2 a0_3 a0_4 a0_5 a0_6 a1 a2 l0 l1 l2 x0 y0 x1 y1 ax ay rw_ rh_ cN (rN * cN) hx2 (by omega) (by omega) hb (rN * cN) 0 (K + 50) (by omega) (by omega)
end Go.Proofs.Ytbliieckbdacnaa.PureKnifePanels
