/- The plain law SheetPairs, over the functions that the executor tells: no Go, no memory. -/
import Derived.Test.YtbliieckbdacnaaXSheetPairs
import Derived.Test.YtbliieckbdacnaaAid
namespace Go.Proofs.Ytbliieckbdacnaa.PureSheetPairs
open Go Go.RowKit Go.Proofs.Ytbliieckbdacnaa.Sy Go.Proofs.Ytbliieckbdacnaa.XSheetPairs Go.Proofs.Ytbliieckbdacnaa.Aid
set_option linter.unusedVariables false
set_option linter.unusedSimpArgs false
def ok_iiiiiiiiis (x : Int × Int × Int × Int × Int × Int × Int × Int × Int × ByteArray) : Prop := (Lit.int .i64 x.1).wf = true ∧ (Lit.int .i64 x.2.1).wf = true ∧ (Lit.int .i64 x.2.2.1).wf = true ∧ (Lit.int .i64 x.2.2.2.1).wf = true ∧ (Lit.int .i64 x.2.2.2.2.1).wf = true ∧ (Lit.int .i64 x.2.2.2.2.2.1).wf = true ∧ (Lit.int .i64 x.2.2.2.2.2.2.1).wf = true ∧ (Lit.int .i64 x.2.2.2.2.2.2.2.1).wf = true ∧ (Lit.int .i64 x.2.2.2.2.2.2.2.2.1).wf = true ∧ x.2.2.2.2.2.2.2.2.2.size ≤ maxLen
def ok_iiiiLiiiiiiiiis_ (x : Int × Int × Int × Int × (List (Int × Int × Int × Int × Int × Int × Int × Int × Int × ByteArray))) : Prop := (Lit.int .i64 x.1).wf = true ∧ (Lit.int .i64 x.2.1).wf = true ∧ (Lit.int .i64 x.2.2.1).wf = true ∧ (Lit.int .i64 x.2.2.2.1).wf = true ∧ (x.2.2.2.2.length ≤ maxLen ∧ ∀ y ∈ x.2.2.2.2, ok_iiiiiiiiis y)
set_option maxRecDepth 100000
/-! ### words of the plain laws -/
def emp (a b c d : Int) : Prop := c ≤ a ∨ d ≤ b
instance (a b c d : Int) : Decidable (emp a b c d) := by unfold emp; infer_instance
/-- A rectangle, brought by a place. -/
def bxm (t ax ay a b c d : Int) : Int × Int × Int × Int :=
  (min (wrap64 ((D t a b).1 + ax)) (wrap64 ((D t c d).1 + ax)), min (wrap64 ((D t a b).2 + ay)) (wrap64 ((D t c d).2 + ay)), max (wrap64 ((D t a b).1 + ax)) (wrap64 ((D t c d).1 + ax)), max (wrap64 ((D t a b).2 + ay)) (wrap64 ((D t c d).2 + ay)))
/-- How many plates a sheet has; how it is turned over; where may be printed; where a block may be. -/
def plt (s : Int) : Int := if s = 1 ∨ s = 2 then 2 else if s = 3 ∨ s = 4 then 1 else 0
def flp (s w h : Int) : Int × Int × Int := if plt s = 0 then (0, 0, 0) else if s = 2 ∨ s = 4 then (6, 0, h) else (4, w, 0)
def are (s w h side g t : Int) : Int × Int × Int × Int := if plt s = 0 then (0, 0, 0, 0) else if s = 2 ∨ s = 4 then (side, max g t, wrap64 (w - side), wrap64 (h - max g t)) else (side, g, wrap64 (w - side), wrap64 (h - t))
def reg (s w h : Int) (a : Int × Int × Int × Int) : Int × Int × Int × Int := if s = 3 then (a.1, a.2.1, min a.2.2.1 (w / 2), a.2.2.2) else if s = 4 then (a.1, a.2.1, a.2.2.1, min a.2.2.2 (h / 2)) else a
theorem plt_zero (s : Int) : plt s = 0 ↔ s < 1 ∨ s > 4 := by
  unfold plt
  by_cases h1 : s = 1 ∨ s = 2
  · rw [if_pos h1]; omega
  · rw [if_neg h1]; by_cases h2 : s = 3 ∨ s = 4
    · rw [if_pos h2]; omega
    · rw [if_neg h2]; omega
theorem min_R {a b : Int} (ha : R a) (hb : R b) : R (min a b) := by unfold R at *; omega
theorem max_R {a b : Int} (ha : R a) (hb : R b) : R (max a b) := by unfold R at *; omega
theorem are_R {s w h side g t : Int} (h1 : R side) (h2 : R g) (h3 : R t) : R (are s w h side g t).1 ∧ R (are s w h side g t).2.1 ∧ R (are s w h side g t).2.2.1 ∧ R (are s w h side g t).2.2.2 := by
  unfold are
  have h0 : R 0 := by unfold R; omega
  split
  · exact ⟨h0, h0, h0, h0⟩
  · split
    · exact ⟨h1, max_R h2 h3, R_wrap _, R_wrap _⟩
    · exact ⟨h1, h2, R_wrap _, R_wrap _⟩
theorem mni_eq (a b : Int) : mni a b = min a b := by unfold mni; split <;> omega
theorem mxi_eq (a b : Int) : mxi a b = max a b := by unfold mxi; split <;> omega
/-- A panel's size. -/
def psz (a b c x y z : Int) : Int × Int := (wrap64 (wrap64 (c + a) + b), wrap64 (wrap64 (z + x) + y))
def mt (a b c d a' b' c' d' : Int) : Int × Int × Int × Int := if emp (max a a') (max b b') (min c c') (min d d') then (0, 0, 0, 0) else (max a a', max b b', min c c', min d d')
def wit (a b c d a' b' c' d' : Int) : Prop := emp a b c d ∨ (a' ≤ a ∧ c ≤ c' ∧ b' ≤ b ∧ d ≤ d')
instance (a b c d a' b' c' d' : Int) : Decidable (wit a b c d a' b' c' d') := by unfold wit; infer_instance
/-- What a job's numbers may be. -/
def B15 (j0 : ByteArray) (j1 j2 j3 j4 j5 j6 j7 j8 j9 j10 j11 j12 j13 : Int) (j14 j15 : Ov) (j16 j17 j18 j19 j20 j21 j22 j23 j24 j25 j26 j27 j28 j29 j30 j31 j32 : Int) : Prop := (1 ≤ j1 ∧ j1 ≤ 100000) ∧ (-5000000 ≤ j2 ∧ j2 ≤ 5000000) ∧ (-5000000 ≤ j3 ∧ j3 ≤ 5000000) ∧ (1 ≤ j4 ∧ j4 ≤ 5000000) ∧ (1 ≤ j5 ∧ j5 ≤ 5000000) ∧ (0 ≤ j6 ∧ j6 ≤ 5000000) ∧ (0 ≤ j7 ∧ j7 ≤ 5000000) ∧ (0 ≤ j8 ∧ j8 ≤ 5000000) ∧ (0 ≤ j9 ∧ j9 ≤ 5000000) ∧ (0 ≤ j10 ∧ j10 ≤ 5000000) ∧ (1 ≤ j11 ∧ j11 ≤ 4) ∧ (1 ≤ j16 ∧ j16 ≤ 4) ∧ (1 ≤ j17 ∧ j17 ≤ 5000000) ∧ (1 ≤ j18 ∧ j18 ≤ 5000000) ∧ (0 ≤ j19 ∧ j19 ≤ 5000000) ∧ (0 ≤ j20 ∧ j20 ≤ 5000000) ∧ (0 ≤ j21 ∧ j21 ≤ 5000000) ∧ (0 ≤ j22 ∧ j22 ≤ 100000) ∧ (0 ≤ j23 ∧ j23 ≤ 1000) ∧ (1 ≤ j24 ∧ j24 ≤ 1000) ∧ (0 ≤ j25 ∧ j25 ≤ 3) ∧ (0 ≤ j26 ∧ j26 ≤ 5000000) ∧ (0 ≤ j27 ∧ j27 ≤ 5000000) ∧ (0 ≤ j28 ∧ j28 ≤ 5000000) ∧ (0 ≤ j29 ∧ j29 ≤ 5000000) ∧ (0 ≤ j30 ∧ j30 ≤ 5000000) ∧ (1 ≤ j31 ∧ j31 ≤ 1000) ∧ (0 ≤ j32 ∧ j32 ≤ 5000000)
theorem pdec {p : Prop} [Decidable p] (h : p) : ¬ ((!decide p) = true) := by simp [h]
theorem ndec {p : Prop} [Decidable p] (h : ¬ p) : (!decide p) = true := by simp [h]
theorem qIn (a b c : Int) : num_In.f a b c = some (decide (b ≤ a ∧ a ≤ c)) := by
  unfold num_In.f
  by_cases h : b ≤ a <;> simp [h]
theorem qPlates (s : Int) : style_Plates.f s = some (plt s) := by
  unfold style_Plates.f plt
  by_cases h1 : s = 1
  · simp [h1]
  · by_cases h2 : s = 2
    · simp [h2]
    · by_cases h3 : s = 3
      · simp [h3]
      · by_cases h4 : s = 4 <;> simp [h1, h2, h3, h4]
theorem qbFirst (j0 : ByteArray) (j1 j2 j3 j4 j5 j6 j7 j8 j9 j10 j11 j12 j13 : Int) (j14 j15 : Ov) (j16 j17 j18 j19 j20 j21 j22 j23 j24 j25 j26 j27 j28 j29 j30 j31 j32 : Int) : (B15 j0 j1 j2 j3 j4 j5 j6 j7 j8 j9 j10 j11 j12 j13 j14 j15 j16 j17 j18 j19 j20 j21 j22 j23 j24 j25 j26 j27 j28 j29 j30 j31 j32 ∧ bounds_First.f j0 j1 j2 j3 j4 j5 j6 j7 j8 j9 j10 j11 j12 j13 j14 j15 j16 j17 j18 j19 j20 j21 j22 j23 j24 j25 j26 j27 j28 j29 j30 j31 j32 = some (-1)) ∨ (¬ B15 j0 j1 j2 j3 j4 j5 j6 j7 j8 j9 j10 j11 j12 j13 j14 j15 j16 j17 j18 j19 j20 j21 j22 j23 j24 j25 j26 j27 j28 j29 j30 j31 j32 ∧ ∃ v, bounds_First.f j0 j1 j2 j3 j4 j5 j6 j7 j8 j9 j10 j11 j12 j13 j14 j15 j16 j17 j18 j19 j20 j21 j22 j23 j24 j25 j26 j27 j28 j29 j30 j31 j32 = some v ∧ 0 ≤ v) := by
  unfold bounds_First.f
  simp only [qIn, Option.bind_some]
  rcases Classical.em (1 ≤ j1 ∧ j1 ≤ 100000) with h0 | h0
  case inr => exact Or.inr ⟨fun h => h0 h.1, 0, by rw [if_pos (ndec h0)], by omega⟩
  rw [if_neg (pdec h0)]
  rcases Classical.em (-5000000 ≤ j2 ∧ j2 ≤ 5000000) with h1 | h1
  case inr => exact Or.inr ⟨fun h => h1 h.2.1, 1, by rw [if_pos (ndec h1)], by omega⟩
  rw [if_neg (pdec h1)]
  rcases Classical.em (-5000000 ≤ j3 ∧ j3 ≤ 5000000) with h2 | h2
  case inr => exact Or.inr ⟨fun h => h2 h.2.2.1, 2, by rw [if_pos (ndec h2)], by omega⟩
  rw [if_neg (pdec h2)]
  rcases Classical.em (1 ≤ j4 ∧ j4 ≤ 5000000) with h3 | h3
  case inr => exact Or.inr ⟨fun h => h3 h.2.2.2.1, 3, by rw [if_pos (ndec h3)], by omega⟩
  rw [if_neg (pdec h3)]
  rcases Classical.em (1 ≤ j5 ∧ j5 ≤ 5000000) with h4 | h4
  case inr => exact Or.inr ⟨fun h => h4 h.2.2.2.2.1, 4, by rw [if_pos (ndec h4)], by omega⟩
  rw [if_neg (pdec h4)]
  rcases Classical.em (0 ≤ j6 ∧ j6 ≤ 5000000) with h5 | h5
  case inr => exact Or.inr ⟨fun h => h5 h.2.2.2.2.2.1, 5, by rw [if_pos (ndec h5)], by omega⟩
  rw [if_neg (pdec h5)]
  rcases Classical.em (0 ≤ j7 ∧ j7 ≤ 5000000) with h6 | h6
  case inr => exact Or.inr ⟨fun h => h6 h.2.2.2.2.2.2.1, 6, by rw [if_pos (ndec h6)], by omega⟩
  rw [if_neg (pdec h6)]
  rcases Classical.em (0 ≤ j8 ∧ j8 ≤ 5000000) with h7 | h7
  case inr => exact Or.inr ⟨fun h => h7 h.2.2.2.2.2.2.2.1, 7, by rw [if_pos (ndec h7)], by omega⟩
  rw [if_neg (pdec h7)]
  rcases Classical.em (0 ≤ j9 ∧ j9 ≤ 5000000) with h8 | h8
  case inr => exact Or.inr ⟨fun h => h8 h.2.2.2.2.2.2.2.2.1, 8, by rw [if_pos (ndec h8)], by omega⟩
  rw [if_neg (pdec h8)]
  rcases Classical.em (0 ≤ j10 ∧ j10 ≤ 5000000) with h9 | h9
  case inr => exact Or.inr ⟨fun h => h9 h.2.2.2.2.2.2.2.2.2.1, 9, by rw [if_pos (ndec h9)], by omega⟩
  rw [if_neg (pdec h9)]
  rcases Classical.em (1 ≤ j11 ∧ j11 ≤ 4) with h10 | h10
  case inr => exact Or.inr ⟨fun h => h10 h.2.2.2.2.2.2.2.2.2.2.1, 10, by rw [if_pos (ndec h10)], by omega⟩
  rw [if_neg (pdec h10)]
  rcases Classical.em (1 ≤ j16 ∧ j16 ≤ 4) with h11 | h11
  case inr => exact Or.inr ⟨fun h => h11 h.2.2.2.2.2.2.2.2.2.2.2.1, 11, by rw [if_pos (ndec h11)], by omega⟩
  rw [if_neg (pdec h11)]
  rcases Classical.em (1 ≤ j17 ∧ j17 ≤ 5000000) with h12 | h12
  case inr => exact Or.inr ⟨fun h => h12 h.2.2.2.2.2.2.2.2.2.2.2.2.1, 12, by rw [if_pos (ndec h12)], by omega⟩
  rw [if_neg (pdec h12)]
  rcases Classical.em (1 ≤ j18 ∧ j18 ≤ 5000000) with h13 | h13
  case inr => exact Or.inr ⟨fun h => h13 h.2.2.2.2.2.2.2.2.2.2.2.2.2.1, 13, by rw [if_pos (ndec h13)], by omega⟩
  rw [if_neg (pdec h13)]
  rcases Classical.em (0 ≤ j19 ∧ j19 ≤ 5000000) with h14 | h14
  case inr => exact Or.inr ⟨fun h => h14 h.2.2.2.2.2.2.2.2.2.2.2.2.2.2.1, 14, by rw [if_pos (ndec h14)], by omega⟩
  rw [if_neg (pdec h14)]
  rcases Classical.em (0 ≤ j20 ∧ j20 ≤ 5000000) with h15 | h15
  case inr => exact Or.inr ⟨fun h => h15 h.2.2.2.2.2.2.2.2.2.2.2.2.2.2.2.1, 15, by rw [if_pos (ndec h15)], by omega⟩
  rw [if_neg (pdec h15)]
  rcases Classical.em (0 ≤ j21 ∧ j21 ≤ 5000000) with h16 | h16
  case inr => exact Or.inr ⟨fun h => h16 h.2.2.2.2.2.2.2.2.2.2.2.2.2.2.2.2.1, 16, by rw [if_pos (ndec h16)], by omega⟩
  rw [if_neg (pdec h16)]
  rcases Classical.em (0 ≤ j22 ∧ j22 ≤ 100000) with h17 | h17
  case inr => exact Or.inr ⟨fun h => h17 h.2.2.2.2.2.2.2.2.2.2.2.2.2.2.2.2.2.1, 17, by rw [if_pos (ndec h17)], by omega⟩
  rw [if_neg (pdec h17)]
  rcases Classical.em (0 ≤ j23 ∧ j23 ≤ 1000) with h18 | h18
  case inr => exact Or.inr ⟨fun h => h18 h.2.2.2.2.2.2.2.2.2.2.2.2.2.2.2.2.2.2.1, 18, by rw [if_pos (ndec h18)], by omega⟩
  rw [if_neg (pdec h18)]
  rcases Classical.em (1 ≤ j24 ∧ j24 ≤ 1000) with h19 | h19
  case inr => exact Or.inr ⟨fun h => h19 h.2.2.2.2.2.2.2.2.2.2.2.2.2.2.2.2.2.2.2.1, 19, by rw [if_pos (ndec h19)], by omega⟩
  rw [if_neg (pdec h19)]
  rcases Classical.em (0 ≤ j25 ∧ j25 ≤ 3) with h20 | h20
  case inr => exact Or.inr ⟨fun h => h20 h.2.2.2.2.2.2.2.2.2.2.2.2.2.2.2.2.2.2.2.2.1, 20, by rw [if_pos (ndec h20)], by omega⟩
  rw [if_neg (pdec h20)]
  rcases Classical.em (0 ≤ j26 ∧ j26 ≤ 5000000) with h21 | h21
  case inr => exact Or.inr ⟨fun h => h21 h.2.2.2.2.2.2.2.2.2.2.2.2.2.2.2.2.2.2.2.2.2.1, 21, by rw [if_pos (ndec h21)], by omega⟩
  rw [if_neg (pdec h21)]
  rcases Classical.em (0 ≤ j27 ∧ j27 ≤ 5000000) with h22 | h22
  case inr => exact Or.inr ⟨fun h => h22 h.2.2.2.2.2.2.2.2.2.2.2.2.2.2.2.2.2.2.2.2.2.2.1, 22, by rw [if_pos (ndec h22)], by omega⟩
  rw [if_neg (pdec h22)]
  rcases Classical.em (0 ≤ j28 ∧ j28 ≤ 5000000) with h23 | h23
  case inr => exact Or.inr ⟨fun h => h23 h.2.2.2.2.2.2.2.2.2.2.2.2.2.2.2.2.2.2.2.2.2.2.2.1, 23, by rw [if_pos (ndec h23)], by omega⟩
  rw [if_neg (pdec h23)]
  rcases Classical.em (0 ≤ j29 ∧ j29 ≤ 5000000) with h24 | h24
  case inr => exact Or.inr ⟨fun h => h24 h.2.2.2.2.2.2.2.2.2.2.2.2.2.2.2.2.2.2.2.2.2.2.2.2.1, 24, by rw [if_pos (ndec h24)], by omega⟩
  rw [if_neg (pdec h24)]
  rcases Classical.em (0 ≤ j30 ∧ j30 ≤ 5000000) with h25 | h25
  case inr => exact Or.inr ⟨fun h => h25 h.2.2.2.2.2.2.2.2.2.2.2.2.2.2.2.2.2.2.2.2.2.2.2.2.2.1, 25, by rw [if_pos (ndec h25)], by omega⟩
  rw [if_neg (pdec h25)]
  rcases Classical.em (1 ≤ j31 ∧ j31 ≤ 1000) with h26 | h26
  case inr => exact Or.inr ⟨fun h => h26 h.2.2.2.2.2.2.2.2.2.2.2.2.2.2.2.2.2.2.2.2.2.2.2.2.2.2.1, 26, by rw [if_pos (ndec h26)], by omega⟩
  rw [if_neg (pdec h26)]
  rcases Classical.em (0 ≤ j32 ∧ j32 ≤ 5000000) with h27 | h27
  case inr => exact Or.inr ⟨fun h => h27 h.2.2.2.2.2.2.2.2.2.2.2.2.2.2.2.2.2.2.2.2.2.2.2.2.2.2.2, 27, by rw [if_pos (ndec h27)], by omega⟩
  rw [if_neg (pdec h27)]
  exact Or.inl ⟨⟨h0, h1, h2, h3, h4, h5, h6, h7, h8, h9, h10, h11, h12, h13, h14, h15, h16, h17, h18, h19, h20, h21, h22, h23, h24, h25, h26, h27⟩, rfl⟩
theorem qTurnDo (K : Nat) (t x y : Int) (hx : R x) (hy : R y) : turn_Do.f (K + 50) t x y = some (D t x y) := by
  have h4 : t % 4 = t % 8 % 4 := by omega
  rcases eight t with h | h | h | h | h | h | h | h <;> rw [h] at h4 <;>
    simp [turn_Do.f, turn_Mirrors.f, and4, and3, h, h4, turn_Do.l0, turn_Do.l1, D, wl1, wl2, wl3, wnn hx, wnn hy]
theorem qPlaceDo (K : Nat) (t ax ay x y : Int) (hx : R x) (hy : R y) : place_Do.f (K + 50) t ax ay x y = some (wrap64 ((D t x y).1 + ax), wrap64 ((D t x y).2 + ay)) := by
  simp only [place_Do.f, qTurnDo K _ _ _ hx hy, Option.bind_some]
theorem qPlaceBox (K : Nat) (t ax ay a b c d : Int) (ha : R a) (hb : R b) (hc : R c) (hd : R d) : place_Box.f (K + 50) t ax ay a b c d = some (bxm t ax ay a b c d) := by
  simp only [place_Box.f, qPlaceDo K _ _ _ _ _ ha hb, qPlaceDo K _ _ _ _ _ hc hd, Option.bind_some, mni_eq, mxi_eq, bxm]
theorem qTurnThen (a b : Int) : turn_Then.f a b = some (th a b) := by
  unfold turn_Then.f turn_Mirrors.f th
  simp only [Option.bind_some, xor4, and3, wrap_m4, or34 _ _ (c04 _)]
  simp only [and4]
  by_cases h : b % 8 < 4 <;> simp [h]
theorem qPlaceThen (K : Nat) (t x y t' x' y' : Int) (hx : R x) (hy : R y) : place_Then.f (K + 50) t x y t' x' y' = some (th t t', wrap64 ((D t' x y).1 + x'), wrap64 ((D t' x y).2 + y')) := by
  simp only [place_Then.f, qPlaceDo K _ _ _ _ _ hx hy, qTurnThen, Option.bind_some]
theorem qacross (s : Int) : style_across.f s = some (decide (s = 2 ∨ s = 4)) := by
  unfold style_across.f
  by_cases h : s = 2 <;> by_cases h' : s = 4 <;> simp [h, h']
theorem qFlip (j0 : ByteArray) (j1 j2 j3 j4 j5 j6 j7 j8 j9 j10 j11 j12 j13 : Int) (j14 j15 : Ov) (j16 j17 j18 j19 j20 j21 j22 j23 j24 j25 j26 j27 j28 j29 j30 j31 j32 : Int) : style_Flip.f j0 j1 j2 j3 j4 j5 j6 j7 j8 j9 j10 j11 j12 j13 j14 j15 j16 j17 j18 j19 j20 j21 j22 j23 j24 j25 j26 j27 j28 j29 j30 j31 j32 = some (flp j16 j17 j18) := by
  unfold style_Flip.f
  simp only [qPlates, qacross, Option.bind_some, place_FlipY.f, place_FlipX.f, flp]
  by_cases h : plt j16 = 0
  · simp [h]
  · by_cases h' : j16 = 2 ∨ j16 = 4 <;> simp [h, h']
theorem first_loop (A F T : List Int) (n : Nat) (hA : A.length = n) (hF : F.length = n) (hT : T.length = n) (hn : n < 1000000) :
    ∀ (d k i : Nat), i + d = n → d < k → (∃ v, gatherumref15_First.l0 A F T k i = some v ∧ 0 ≤ v) ∨ (gatherumref15_First.l0 A F T k i = some (-1) ∧ ∀ j, i ≤ j → j < n → ∀ a f t, A[j]? = some a → F[j]? = some f → T[j]? = some t → f ≤ a ∧ a ≤ t) := by
  intro d
  induction d with
  | zero =>
    intro k i hi hk
    obtain ⟨k, rfl⟩ : ∃ m, k = m + 1 := ⟨k - 1, by omega⟩
    refine Or.inr ⟨?_, fun j h1 h2 => by omega⟩
    rw [gatherumref15_First.l0, if_neg (by simp; omega)]
  | succ d ih =>
    intro k i hi hk
    obtain ⟨k, rfl⟩ : ∃ m, k = m + 1 := ⟨k - 1, by omega⟩
    rw [gatherumref15_First.l0]
    have hAi : A[i]? = some A[i] := List.getElem?_eq_getElem (by omega)
    have hFi : F[i]? = some F[i] := List.getElem?_eq_getElem (by omega)
    have hTi : T[i]? = some T[i] := List.getElem?_eq_getElem (by omega)
    have g1 : (decide ((i : Int) < ((A.length : Nat) : Int))) = true := by simp; omega
    have g2 : (decide ((i : Int) < ((F.length : Nat) : Int))) = true := by simp; omega
    have g3 : (decide ((i : Int) < ((T.length : Nat) : Int))) = true := by simp; omega
    have g4 : (decide ((0 : Int) ≤ (i : Int))) = true := by simp
    simp only [Int.toNat_natCast, hAi, hFi, hTi, Option.bind_some, g1, g2, g3, g4, if_true]
    by_cases h1 : A[i] < F[i]
    · rw [if_pos (by simpa using h1)]; exact Or.inl ⟨_, rfl, by omega⟩
    · rw [if_neg (by simpa using h1)]
      by_cases h2 : T[i] < A[i]
      · rw [if_pos (by simpa using h2)]; exact Or.inl ⟨_, rfl, by omega⟩
      · rw [if_neg (by simpa using h2), wrap_id (by omega) (by omega), show (i : Int) + 1 = ((i + 1 : Nat) : Int) by omega]
        rcases ih k (i + 1) (by omega) (by omega) with h | ⟨h, hh⟩
        · exact Or.inl h
        · refine Or.inr ⟨h, fun j hj1 hj2 a f t ha hf ht => ?_⟩
          rcases Nat.lt_or_ge i j with hlt | hge
          · exact hh j hlt hj2 a f t ha hf ht
          · obtain rfl : j = i := by omega
            rw [hAi] at ha; rw [hFi] at hf; rw [hTi] at ht
            cases ha; cases hf; cases ht
            omega
theorem first_ok (A F T : List Int) (n : Nat) (hA : A.length = n) (hF : F.length = n) (hT : T.length = n) (hn : n < 1000000) (hb : ∀ j, j < n → ∀ a f t, A[j]? = some a → F[j]? = some f → T[j]? = some t → f ≤ a ∧ a ≤ t) :
    ∀ (d k i : Nat), i + d = n → d < k → gatherumref15_First.l0 A F T k i = some (-1) := by
  intro d
  induction d with
  | zero =>
    intro k i hi hk
    obtain ⟨k, rfl⟩ : ∃ m, k = m + 1 := ⟨k - 1, by omega⟩
    rw [gatherumref15_First.l0, if_neg (by simp; omega)]
  | succ d ih =>
    intro k i hi hk
    obtain ⟨k, rfl⟩ : ∃ m, k = m + 1 := ⟨k - 1, by omega⟩
    rw [gatherumref15_First.l0]
    have hAi : A[i]? = some A[i] := List.getElem?_eq_getElem (by omega)
    have hFi : F[i]? = some F[i] := List.getElem?_eq_getElem (by omega)
    have hTi : T[i]? = some T[i] := List.getElem?_eq_getElem (by omega)
    have g1 : (decide ((i : Int) < ((A.length : Nat) : Int))) = true := by simp; omega
    have g2 : (decide ((i : Int) < ((F.length : Nat) : Int))) = true := by simp; omega
    have g3 : (decide ((i : Int) < ((T.length : Nat) : Int))) = true := by simp; omega
    have g4 : (decide ((0 : Int) ≤ (i : Int))) = true := by simp
    have hbi := hb i (by omega) _ _ _ hAi hFi hTi
    simp only [Int.toNat_natCast, hAi, hFi, hTi, Option.bind_some, g1, g2, g3, g4, if_true]
    rw [if_neg (by simp; omega), if_neg (by simp; omega), wrap_id (by omega) (by omega), show (i : Int) + 1 = ((i + 1 : Nat) : Int) by omega]
    exact ih k (i + 1) (by omega) (by omega)
theorem q15First (K : Nat) (j0 : ByteArray) (j1 j2 j3 j4 j5 j6 j7 j8 j9 j10 j11 j12 j13 : Int) (j14 j15 : Ov) (j16 j17 j18 j19 j20 j21 j22 j23 j24 j25 j26 j27 j28 j29 j30 j31 j32 : Int) : (∃ v, gatherumref15_First.f (K + 50) j0 j1 j2 j3 j4 j5 j6 j7 j8 j9 j10 j11 j12 j13 j14 j15 j16 j17 j18 j19 j20 j21 j22 j23 j24 j25 j26 j27 j28 j29 j30 j31 j32 = some v ∧ 0 ≤ v) ∨ (gatherumref15_First.f (K + 50) j0 j1 j2 j3 j4 j5 j6 j7 j8 j9 j10 j11 j12 j13 j14 j15 j16 j17 j18 j19 j20 j21 j22 j23 j24 j25 j26 j27 j28 j29 j30 j31 j32 = some (-1) ∧ (1 ≤ j1 ∧ j1 ≤ 100000) ∧ (-5000000 ≤ j2 ∧ j2 ≤ 5000000) ∧ (-5000000 ≤ j3 ∧ j3 ≤ 5000000) ∧ (1 ≤ j4 ∧ j4 ≤ 5000000) ∧ (1 ≤ j5 ∧ j5 ≤ 5000000) ∧ (0 ≤ j6 ∧ j6 ≤ 5000000) ∧ (0 ≤ j7 ∧ j7 ≤ 5000000) ∧ (0 ≤ j8 ∧ j8 ≤ 5000000) ∧ (0 ≤ j9 ∧ j9 ≤ 5000000) ∧ (0 ≤ j10 ∧ j10 ≤ 5000000) ∧ (1 ≤ j11 ∧ j11 ≤ 4) ∧ (1 ≤ j16 ∧ j16 ≤ 4) ∧ (1 ≤ j17 ∧ j17 ≤ 5000000) ∧ (1 ≤ j18 ∧ j18 ≤ 5000000) ∧ (0 ≤ j19 ∧ j19 ≤ 5000000) ∧ (0 ≤ j20 ∧ j20 ≤ 5000000) ∧ (0 ≤ j21 ∧ j21 ≤ 5000000) ∧ (0 ≤ j22 ∧ j22 ≤ 100000) ∧ (0 ≤ j23 ∧ j23 ≤ 1000) ∧ (1 ≤ j24 ∧ j24 ≤ 1000) ∧ (0 ≤ j25 ∧ j25 ≤ 3) ∧ (0 ≤ j26 ∧ j26 ≤ 5000000) ∧ (0 ≤ j27 ∧ j27 ≤ 5000000) ∧ (0 ≤ j28 ∧ j28 ≤ 5000000) ∧ (0 ≤ j29 ∧ j29 ≤ 5000000) ∧ (0 ≤ j30 ∧ j30 ≤ 5000000) ∧ (1 ≤ j31 ∧ j31 ≤ 1000) ∧ (0 ≤ j32 ∧ j32 ≤ 5000000)) := by
  have h := first_loop [j1, j2, j3, j4, j5, j6, j7, j8, j9, j10, j11, j16, j17, j18, j19, j20, j21, j22, j23, j24, j25, j26, j27, j28, j29, j30, j31, j32] [1, -5000000, -5000000, 1, 1, 0, 0, 0, 0, 0, 1, 1, 1, 1, 0, 0, 0, 0, 0, 1, 0, 0, 0, 0, 0, 0, 1, 0] [100000, 5000000, 5000000, 5000000, 5000000, 5000000, 5000000, 5000000, 5000000, 5000000, 4, 4, 5000000, 5000000, 5000000, 5000000, 5000000, 100000, 1000, 1000, 3, 5000000, 5000000, 5000000, 5000000, 5000000, 1000, 5000000] 28 rfl rfl rfl (by omega) 28 (K + 50) 0 (by omega) (by omega)
  rcases h with h | ⟨h, hh⟩
  · exact Or.inl h
  · refine Or.inr ⟨h, hh 0 (by omega) (by omega) _ _ _ rfl rfl rfl, hh 1 (by omega) (by omega) _ _ _ rfl rfl rfl, hh 2 (by omega) (by omega) _ _ _ rfl rfl rfl, hh 3 (by omega) (by omega) _ _ _ rfl rfl rfl, hh 4 (by omega) (by omega) _ _ _ rfl rfl rfl, hh 5 (by omega) (by omega) _ _ _ rfl rfl rfl, hh 6 (by omega) (by omega) _ _ _ rfl rfl rfl, hh 7 (by omega) (by omega) _ _ _ rfl rfl rfl, hh 8 (by omega) (by omega) _ _ _ rfl rfl rfl, hh 9 (by omega) (by omega) _ _ _ rfl rfl rfl, hh 10 (by omega) (by omega) _ _ _ rfl rfl rfl, hh 11 (by omega) (by omega) _ _ _ rfl rfl rfl, hh 12 (by omega) (by omega) _ _ _ rfl rfl rfl, hh 13 (by omega) (by omega) _ _ _ rfl rfl rfl, hh 14 (by omega) (by omega) _ _ _ rfl rfl rfl, hh 15 (by omega) (by omega) _ _ _ rfl rfl rfl, hh 16 (by omega) (by omega) _ _ _ rfl rfl rfl, hh 17 (by omega) (by omega) _ _ _ rfl rfl rfl, hh 18 (by omega) (by omega) _ _ _ rfl rfl rfl, hh 19 (by omega) (by omega) _ _ _ rfl rfl rfl, hh 20 (by omega) (by omega) _ _ _ rfl rfl rfl, hh 21 (by omega) (by omega) _ _ _ rfl rfl rfl, hh 22 (by omega) (by omega) _ _ _ rfl rfl rfl, hh 23 (by omega) (by omega) _ _ _ rfl rfl rfl, hh 24 (by omega) (by omega) _ _ _ rfl rfl rfl, hh 25 (by omega) (by omega) _ _ _ rfl rfl rfl, hh 26 (by omega) (by omega) _ _ _ rfl rfl rfl, hh 27 (by omega) (by omega) _ _ _ rfl rfl rfl⟩
theorem q15Ok (K : Nat) (j0 : ByteArray) (j1 j2 j3 j4 j5 j6 j7 j8 j9 j10 j11 j12 j13 : Int) (j14 j15 : Ov) (j16 j17 j18 j19 j20 j21 j22 j23 j24 j25 j26 j27 j28 j29 j30 j31 j32 : Int) (h : B15 j0 j1 j2 j3 j4 j5 j6 j7 j8 j9 j10 j11 j12 j13 j14 j15 j16 j17 j18 j19 j20 j21 j22 j23 j24 j25 j26 j27 j28 j29 j30 j31 j32) : gatherumref15_First.f (K + 50) j0 j1 j2 j3 j4 j5 j6 j7 j8 j9 j10 j11 j12 j13 j14 j15 j16 j17 j18 j19 j20 j21 j22 j23 j24 j25 j26 j27 j28 j29 j30 j31 j32 = some (-1) := by
  refine first_ok [j1, j2, j3, j4, j5, j6, j7, j8, j9, j10, j11, j16, j17, j18, j19, j20, j21, j22, j23, j24, j25, j26, j27, j28, j29, j30, j31, j32] [1, -5000000, -5000000, 1, 1, 0, 0, 0, 0, 0, 1, 1, 1, 1, 0, 0, 0, 0, 0, 1, 0, 0, 0, 0, 0, 0, 1, 0] [100000, 5000000, 5000000, 5000000, 5000000, 5000000, 5000000, 5000000, 5000000, 5000000, 4, 4, 5000000, 5000000, 5000000, 5000000, 5000000, 100000, 1000, 1000, 3, 5000000, 5000000, 5000000, 5000000, 5000000, 1000, 5000000] 28 rfl rfl rfl (by omega) ?_ 28 (K + 50) 0 (by omega) (by omega)
  intro j hj a f t ha hf ht
  have hc : j = 0 ∨ j = 1 ∨ j = 2 ∨ j = 3 ∨ j = 4 ∨ j = 5 ∨ j = 6 ∨ j = 7 ∨ j = 8 ∨ j = 9 ∨ j = 10 ∨ j = 11 ∨ j = 12 ∨ j = 13 ∨ j = 14 ∨ j = 15 ∨ j = 16 ∨ j = 17 ∨ j = 18 ∨ j = 19 ∨ j = 20 ∨ j = 21 ∨ j = 22 ∨ j = 23 ∨ j = 24 ∨ j = 25 ∨ j = 26 ∨ j = 27 := by omega
  rcases hc with rfl | rfl | rfl | rfl | rfl | rfl | rfl | rfl | rfl | rfl | rfl | rfl | rfl | rfl | rfl | rfl | rfl | rfl | rfl | rfl | rfl | rfl | rfl | rfl | rfl | rfl | rfl | rfl
  · cases ha; cases hf; cases ht; exact h.1
  · cases ha; cases hf; cases ht; exact h.2.1
  · cases ha; cases hf; cases ht; exact h.2.2.1
  · cases ha; cases hf; cases ht; exact h.2.2.2.1
  · cases ha; cases hf; cases ht; exact h.2.2.2.2.1
  · cases ha; cases hf; cases ht; exact h.2.2.2.2.2.1
  · cases ha; cases hf; cases ht; exact h.2.2.2.2.2.2.1
  · cases ha; cases hf; cases ht; exact h.2.2.2.2.2.2.2.1
  · cases ha; cases hf; cases ht; exact h.2.2.2.2.2.2.2.2.1
  · cases ha; cases hf; cases ht; exact h.2.2.2.2.2.2.2.2.2.1
  · cases ha; cases hf; cases ht; exact h.2.2.2.2.2.2.2.2.2.2.1
  · cases ha; cases hf; cases ht; exact h.2.2.2.2.2.2.2.2.2.2.2.1
  · cases ha; cases hf; cases ht; exact h.2.2.2.2.2.2.2.2.2.2.2.2.1
  · cases ha; cases hf; cases ht; exact h.2.2.2.2.2.2.2.2.2.2.2.2.2.1
  · cases ha; cases hf; cases ht; exact h.2.2.2.2.2.2.2.2.2.2.2.2.2.2.1
  · cases ha; cases hf; cases ht; exact h.2.2.2.2.2.2.2.2.2.2.2.2.2.2.2.1
  · cases ha; cases hf; cases ht; exact h.2.2.2.2.2.2.2.2.2.2.2.2.2.2.2.2.1
  · cases ha; cases hf; cases ht; exact h.2.2.2.2.2.2.2.2.2.2.2.2.2.2.2.2.2.1
  · cases ha; cases hf; cases ht; exact h.2.2.2.2.2.2.2.2.2.2.2.2.2.2.2.2.2.2.1
  · cases ha; cases hf; cases ht; exact h.2.2.2.2.2.2.2.2.2.2.2.2.2.2.2.2.2.2.2.1
  · cases ha; cases hf; cases ht; exact h.2.2.2.2.2.2.2.2.2.2.2.2.2.2.2.2.2.2.2.2.1
  · cases ha; cases hf; cases ht; exact h.2.2.2.2.2.2.2.2.2.2.2.2.2.2.2.2.2.2.2.2.2.1
  · cases ha; cases hf; cases ht; exact h.2.2.2.2.2.2.2.2.2.2.2.2.2.2.2.2.2.2.2.2.2.2.1
  · cases ha; cases hf; cases ht; exact h.2.2.2.2.2.2.2.2.2.2.2.2.2.2.2.2.2.2.2.2.2.2.2.1
  · cases ha; cases hf; cases ht; exact h.2.2.2.2.2.2.2.2.2.2.2.2.2.2.2.2.2.2.2.2.2.2.2.2.1
  · cases ha; cases hf; cases ht; exact h.2.2.2.2.2.2.2.2.2.2.2.2.2.2.2.2.2.2.2.2.2.2.2.2.2.1
  · cases ha; cases hf; cases ht; exact h.2.2.2.2.2.2.2.2.2.2.2.2.2.2.2.2.2.2.2.2.2.2.2.2.2.2.1
  · cases ha; cases hf; cases ht; exact h.2.2.2.2.2.2.2.2.2.2.2.2.2.2.2.2.2.2.2.2.2.2.2.2.2.2.2
theorem q15Both (K : Nat) (j0 : ByteArray) (j1 j2 j3 j4 j5 j6 j7 j8 j9 j10 j11 j12 j13 : Int) (j14 j15 : Ov) (j16 j17 j18 j19 j20 j21 j22 j23 j24 j25 j26 j27 j28 j29 j30 j31 j32 : Int) : (B15 j0 j1 j2 j3 j4 j5 j6 j7 j8 j9 j10 j11 j12 j13 j14 j15 j16 j17 j18 j19 j20 j21 j22 j23 j24 j25 j26 j27 j28 j29 j30 j31 j32 ∧ gatherumref15_First.f (K + 50) j0 j1 j2 j3 j4 j5 j6 j7 j8 j9 j10 j11 j12 j13 j14 j15 j16 j17 j18 j19 j20 j21 j22 j23 j24 j25 j26 j27 j28 j29 j30 j31 j32 = some (-1)) ∨ (¬ B15 j0 j1 j2 j3 j4 j5 j6 j7 j8 j9 j10 j11 j12 j13 j14 j15 j16 j17 j18 j19 j20 j21 j22 j23 j24 j25 j26 j27 j28 j29 j30 j31 j32 ∧ ∃ v, gatherumref15_First.f (K + 50) j0 j1 j2 j3 j4 j5 j6 j7 j8 j9 j10 j11 j12 j13 j14 j15 j16 j17 j18 j19 j20 j21 j22 j23 j24 j25 j26 j27 j28 j29 j30 j31 j32 = some v ∧ 0 ≤ v) := by
  rcases q15First K j0 j1 j2 j3 j4 j5 j6 j7 j8 j9 j10 j11 j12 j13 j14 j15 j16 j17 j18 j19 j20 j21 j22 j23 j24 j25 j26 j27 j28 j29 j30 j31 j32 with ⟨v, h1, h2⟩ | ⟨h1, h2⟩
  · refine Or.inr ⟨fun h => ?_, v, h1, h2⟩
    have h3 := q15Ok K j0 j1 j2 j3 j4 j5 j6 j7 j8 j9 j10 j11 j12 j13 j14 j15 j16 j17 j18 j19 j20 j21 j22 j23 j24 j25 j26 j27 j28 j29 j30 j31 j32 h
    rw [h1] at h3
    cases h3
    omega
  · exact Or.inl ⟨h2, h1⟩
abbrev It := Int × Int × Int × Int × Int × Int × Int × Int × Int × ByteArray
abbrev Pl := Int × Int × Int × Int × (List It)
theorem toNat_nat (n : Nat) : ((n : Nat) : Int).toNat = n := Int.toNat_natCast n
theorem wsucc {n m : Nat} (h : n < m) (hm : m ≤ 100000) : wrap64 ((n : Int) + 1) = ((n + 1 : Nat) : Int) := by rw [wrap_id (by omega) (by omega)]; omega
def okI (i : It) : Prop := R i.2.2.2.1 ∧ R i.2.2.2.2.1 ∧ R i.2.2.2.2.2.1 ∧ R i.2.2.2.2.2.2.1 ∧ R i.2.2.2.2.2.2.2.1 ∧ R i.2.2.2.2.2.2.2.2.1
theorem sameLoop (l : List It) (hl : l.length ≤ 100000) : ∀ (d n k : Nat), n + d = l.length → d + 1 ≤ k → gatherumref24_Same.l0 l l k (n : Int) = some true := by
  intro d
  induction d with
  | zero =>
    intro n k hd hk
    obtain ⟨k, rfl⟩ : ∃ k', k = k' + 1 := ⟨k - 1, by omega⟩
    rw [gatherumref24_Same.l0, if_neg (by simp; omega)]
  | succ d ih =>
    intro n k hd hk
    obtain ⟨k, rfl⟩ : ∃ k', k = k' + 1 := ⟨k - 1, by omega⟩
    have hn : n < l.length := by omega
    rw [gatherumref24_Same.l0, if_pos (by simp; omega), if_pos (by simp), toNat_nat, List.getElem?_eq_getElem hn, Option.bind_some, if_pos (by simp; omega), Option.bind_some, if_neg (by simp), wsucc hn hl]
    exact ih (n + 1) k (by omega) (by omega)
theorem sameSelf (K : Nat) (l : List It) (hl : l.length ≤ 100000) (hK : l.length + 1 ≤ K) : gatherumref24_Same.f K l l = some true := by
  rw [gatherumref24_Same.f, if_neg (by simp)]
  exact sameLoop l hl l.length 0 K (by omega) (by omega)
theorem light1 (j0 : Int → Option Bool) (p1 : Int) (l : List It) (hl : l.length ≤ 100000) : ∀ (d n k : Nat), n + d = l.length → d + 1 ≤ k → gatherumref24_Light.l1 j0 p1 l k (n : Int) = some false ∨ gatherumref24_Light.l1 j0 p1 l k (n : Int) = j0 (wrap64 (p1 + 1)) := by
  intro d
  induction d with
  | zero =>
    intro n k hd hk
    obtain ⟨k, rfl⟩ : ∃ k', k = k' + 1 := ⟨k - 1, by omega⟩
    rw [gatherumref24_Light.l1, if_neg (by simp; omega)]
    exact Or.inr rfl
  | succ d ih =>
    intro n k hd hk
    obtain ⟨k, rfl⟩ : ∃ k', k = k' + 1 := ⟨k - 1, by omega⟩
    have hn : n < l.length := by omega
    rw [gatherumref24_Light.l1, if_pos (by simp; omega), if_pos (by simp), toNat_nat, List.getElem?_eq_getElem hn, Option.bind_some]
    split
    · exact Or.inl rfl
    · rw [wsucc hn hl]
      exact ih (n + 1) k (by omega) (by omega)
theorem light0 (K : Nat) (hK : 1000 ≤ K) (a : List Pl) (hl : a.length ≤ 60) : ∀ (d n k : Nat), n + d = a.length → d + 1 ≤ k → ∃ b, gatherumref24_Light.l0 K a k (n : Int) = some b ∧ (b = true → ∀ i, n ≤ i → ∀ h : i < a.length, (a[i]'h).2.2.2.2.length ≤ 400) := by
  intro d
  induction d with
  | zero =>
    intro n k hd hk
    obtain ⟨k, rfl⟩ : ∃ k', k = k' + 1 := ⟨k - 1, by omega⟩
    rw [gatherumref24_Light.l0, if_neg (by simp; omega)]
    exact ⟨true, rfl, fun _ i h1 h2 => by omega⟩
  | succ d ih =>
    intro n k hd hk
    obtain ⟨k, rfl⟩ : ∃ k', k = k' + 1 := ⟨k - 1, by omega⟩
    have hn : n < a.length := by omega
    rw [gatherumref24_Light.l0, if_pos (by simp; omega), if_pos (by simp), toNat_nat, List.getElem?_eq_getElem hn, Option.bind_some]
    by_cases h4 : (a[n]'hn).2.2.2.2.length ≤ 400
    · rw [if_neg (by simp; omega)]
      rcases light1 (fun y0 => gatherumref24_Light.l0 K a k y0) (n : Int) (a[n]'hn).2.2.2.2 (by omega) (a[n]'hn).2.2.2.2.length 0 K (by omega) (by omega) with e | e
      · exact ⟨false, e, fun h => by cases h⟩
      · obtain ⟨b, e1, e2⟩ := ih (n + 1) k (by omega) (by omega)
        rw [← wsucc hn (by omega)] at e1
        refine ⟨b, e.trans e1, fun h i h1 h2 => ?_⟩
        rcases Nat.eq_or_lt_of_le h1 with rfl | h3
        · exact h4
        · exact e2 h i h3 h2
    · rw [if_pos (by simp; omega)]
      exact ⟨false, rfl, fun h => by cases h⟩
theorem lightOk (K : Nat) (hK : 1000 ≤ K) (a : List Pl) : ∃ b, gatherumref24_Light.f K a = some b ∧ (b = true → a.length ≤ 60 ∧ ∀ i, ∀ h : i < a.length, (a[i]'h).2.2.2.2.length ≤ 400) := by
  rw [gatherumref24_Light.f]
  by_cases h : a.length ≤ 60
  · rw [if_neg (by simp; omega)]
    obtain ⟨b, e1, e2⟩ := light0 K hK a h a.length 0 K (by omega) (by omega)
    exact ⟨b, e1, fun hb => ⟨h, fun i hi => e2 hb i (by omega) hi⟩⟩
  · rw [if_pos (by simp; omega)]
    exact ⟨false, rfl, fun h => by cases h⟩
theorem aliveO (o0 : Ov) : gatherumlaw37_alive.fo (2000 + 50) o0 = some true := by kernel_rfl
theorem alive : gatherumlaw37_alive.f (2000 + 50) = some true := by
  unfold gatherumlaw37_alive.f
  rw [if_pos (fun o0 => by rw [aliveO, aliveO])]
  exact aliveO kSl
theorem cap_ge : (100000 : Int) ≤ cap5864062014805 := by unfold cap5864062014805; omega
theorem may_s (j0 : ByteArray) (j1 j2 j3 j4 j5 j6 j7 j8 j9 j10 j11 j12 j13 : Int) (j14 j15 : Ov) (j16 j17 j18 j19 j20 j21 j22 j23 j24 j25 j26 j27 j28 j29 j30 j31 j32 : Int) (h : B15 j0 j1 j2 j3 j4 j5 j6 j7 j8 j9 j10 j11 j12 j13 j14 j15 j16 j17 j18 j19 j20 j21 j22 j23 j24 j25 j26 j27 j28 j29 j30 j31 j32) : 1 ≤ j16 ∧ j16 ≤ 4 := by
  obtain ⟨-, -, -, -, -, -, -, -, -, -, -, b, -⟩ := h
  exact b
theorem eachL (s : Int) (h : 1 ≤ s ∧ s ≤ 4) : wrap64 (2 - wrap64 (Int.tdiv (wrap64 (s - 1)) 2)) = plt s := by
  have hc : s = 1 ∨ s = 2 ∨ s = 3 ∨ s = 4 := by omega
  rcases hc with rfl | rfl | rfl | rfl <;> decide +kernel
theorem plt_nat (s : Int) (h : 1 ≤ s ∧ s ≤ 4) : ∃ e : Nat, plt s = (e : Int) ∧ (e = 1 ∨ e = 2) := by
  have hc : s = 1 ∨ s = 2 ∨ s = 3 ∨ s = 4 := by omega
  rcases hc with rfl | rfl | rfl | rfl
  · exact ⟨2, by decide +kernel, .inr rfl⟩
  · exact ⟨2, by decide +kernel, .inr rfl⟩
  · exact ⟨1, by decide +kernel, .inl rfl⟩
  · exact ⟨1, by decide +kernel, .inl rfl⟩
/-- Does a plate stand where it should? -/
def fine (e : Nat) (L : List Pl) (i : Nat) : Prop := ∀ h : i < L.length, (L[i]'h).1 = ((i / e : Nat) : Int) ∧ (L[i]'h).2.1 = 1 + ((i % e : Nat) : Int)
/-- A sheet's plates. -/
def chk (e : Nat) (L : List Pl) (m : Nat) : List Pl := (L.take ((m + 1) * e)).drop (m * e)
def chs (e : Nat) (L : List Pl) (n : Nat) : List (List Pl) := (List.range n).map (chk e L)
theorem chs_succ (e : Nat) (L : List Pl) (n : Nat) : chs e L (n + 1) = chs e L n ++ [chk e L n] := by simp [chs, List.range_succ]
theorem chk_len {e m : Nat} {L : List Pl} (h : (m + 1) * e ≤ L.length) : (chk e L m).length = e := by
  unfold chk
  rw [List.length_drop, List.length_take, Nat.min_eq_left h, Nat.add_mul]
  omega
theorem chk_get {e m i : Nat} {L : List Pl} (h : (m + 1) * e ≤ L.length) (hi : i < e) : (chk e L m)[i]? = some (L[m * e + i]'(by rw [Nat.add_mul] at h; omega)) := by
  unfold chk
  rw [List.getElem?_drop, List.getElem?_take_of_lt (by rw [Nat.add_mul]; omega), List.getElem?_eq_getElem]
theorem xsub_chk {e m : Nat} {L : List Pl} (h : (m + 1) * e ≤ L.length) : xsub L ((m * e : Nat) : Int) (((m + 1) * e : Nat) : Int) = some (chk e L m) := by
  unfold xsub
  rw [if_pos ⟨by omega, by rw [Nat.add_mul]; omega, by omega⟩, toNat_nat, toNat_nat]
  rfl
theorem wr_me {e m : Nat} {N : Nat} (he : e = 1 ∨ e = 2) (h : (m + 1) * e ≤ N) (hN : N ≤ 60) : wrap64 (((m * e : Nat) : Int) + (e : Int)) = (((m + 1) * e : Nat) : Int) ∧ wrap64 ((m : Int) * (e : Int)) = ((m * e : Nat) : Int) ∧ wrap64 (((m + 1 : Nat) : Int) * (e : Int)) = (((m + 1) * e : Nat) : Int) ∧ wrap64 (Int.tdiv ((m * e : Nat) : Int) (e : Int)) = (m : Int) := by
  rcases he with rfl | rfl
  · refine ⟨?_, ?_, ?_, ?_⟩
    · rw [wrap_id (by omega) (by omega)]; omega
    · rw [wrap_id (by omega) (by omega)]; omega
    · rw [wrap_id (by omega) (by omega)]; omega
    · rw [Int.tdiv_eq_ediv_of_nonneg (by omega), wrap_id (by omega) (by omega)]; omega
  · refine ⟨?_, ?_, ?_, ?_⟩
    · rw [wrap_id (by omega) (by omega)]; omega
    · rw [wrap_id (by omega) (by omega)]; omega
    · rw [wrap_id (by omega) (by omega)]; omega
    · rw [Int.tdiv_eq_ediv_of_nonneg (by omega), wrap_id (by omega) (by omega)]; omega
theorem dm {e m i : Nat} (he : e = 1 ∨ e = 2) (hi : i < e) : (m * e + i) / e = m ∧ (m * e + i) % e = i := by
  rcases he with rfl | rfl <;> omega
theorem xclo_ok {α : Type} {bs : Nat} {l : List α} (hl : l.length ≤ 400) (hb : bs ≤ 100) : xclo bs l = some l := by
  unfold xclo
  have : l.length * bs ≤ 400 * 100 := Nat.mul_le_mul hl hb
  rw [if_pos (by omega)]
theorem l1Loop (J : Int → List (List Pl) → Option (List (List Pl) × Bool)) {e m : Nat} {L : List Pl} (he : e = 1 ∨ e = 2) (h : (m + 1) * e ≤ L.length) (hL : L.length ≤ 60) (hit : ∀ i, ∀ h : i < L.length, (L[i]'h).2.2.2.2.length ≤ 400) (acc : List (List Pl)) (hacc : acc.length ≤ 60) :
    ∀ (d i k : Nat), i + d = e → d + 1 ≤ k → (∀ i', i ≤ i' → i' < e → fine e L (m * e + i')) → sheet_Pairs.l1 J (e : Int) ((m * e : Nat) : Int) acc (chk e L m) k (i : Int) (chk e L m) = J (((m + 1) * e : Nat) : Int) (acc ++ [chk e L m]) := by
  intro d
  have hcl := chk_len h
  induction d with
  | zero =>
    intro i k hd hk hf
    obtain ⟨k, rfl⟩ : ∃ k', k = k' + 1 := ⟨k - 1, by omega⟩
    have hcap : decide (((acc.length + 1 : Nat) : Int) ≤ cap5864062014805) = true := by
      have h1 := cap_ge
      generalize cap5864062014805 = C at *
      exact decide_eq_true (by omega)
    rw [sheet_Pairs.l1, if_neg (by simp; omega), if_pos hcap, (wr_me he h hL).1]
  | succ d ih =>
    intro i k hd hk hf
    obtain ⟨k, rfl⟩ : ∃ k', k = k' + 1 := ⟨k - 1, by omega⟩
    have hi : i < e := by omega
    have hlt : m * e + i < L.length := by rw [Nat.add_mul] at h; omega
    obtain ⟨f1, f2⟩ := hf i (by omega) hi hlt
    obtain ⟨g1, g2⟩ := dm (m := m) he hi
    rw [g1] at f1
    rw [g2] at f2
    have hg := chk_get h hi
    have hset : xset (chk e L m) (i : Int) (fun x : Pl => (x.1, x.2.1, x.2.2.1, x.2.2.2.1, (L[m * e + i]'hlt).2.2.2.2)) = some (chk e L m) := by
      unfold xset
      rw [toNat_nat, hg, Option.map_some]
      congr 1
      have h2 : (chk e L m)[i]'(by omega) = L[m * e + i]'hlt := by
        rw [List.getElem?_eq_getElem (by omega)] at hg
        exact Option.some.inj hg
      show (chk e L m).set i (L[m * e + i]'hlt) = chk e L m
      rw [← h2, List.set_getElem_self]
    rw [sheet_Pairs.l1, if_pos (by simp; omega), if_pos (by simp), if_pos (by simp; omega), toNat_nat, hg, Option.bind_some, (wr_me he h hL).2.2.2, if_neg (by simp [f1]), wsucc (m := 60) (by omega) (by omega), if_neg (by simp [f2]; omega), xclo_ok (hit _ hlt) (by omega), Option.bind_some, hset, Option.bind_some]
    exact ih (i + 1) k (by omega) (by omega) fun i' h1 h2 => hf i' (by omega) h2
theorem l1Bad (J : Int → List (List Pl) → Option (List (List Pl) × Bool)) {e m : Nat} {L : List Pl} (he : e = 1 ∨ e = 2) (h : (m + 1) * e ≤ L.length) (hL : L.length ≤ 60) (hit : ∀ i, ∀ h : i < L.length, (L[i]'h).2.2.2.2.length ≤ 400) (acc : List (List Pl)) :
    ∀ (d i k : Nat), i + d = e → d + 1 ≤ k → (∃ i', i ≤ i' ∧ i' < e ∧ ¬ fine e L (m * e + i')) → sheet_Pairs.l1 J (e : Int) ((m * e : Nat) : Int) acc (chk e L m) k (i : Int) (chk e L m) = some ([], false) := by
  intro d
  have hcl := chk_len h
  induction d with
  | zero =>
    intro i k hd hk hf
    obtain ⟨i', h1, h2, _⟩ := hf
    omega
  | succ d ih =>
    intro i k hd hk hf
    obtain ⟨k, rfl⟩ : ∃ k', k = k' + 1 := ⟨k - 1, by omega⟩
    have hi : i < e := by omega
    have hlt : m * e + i < L.length := by rw [Nat.add_mul] at h; omega
    obtain ⟨g1, g2⟩ := dm (m := m) he hi
    have hg := chk_get h hi
    rw [sheet_Pairs.l1, if_pos (by simp; omega), if_pos (by simp), if_pos (by simp; omega), toNat_nat, hg, Option.bind_some, (wr_me he h hL).2.2.2, wsucc (m := 60) (by omega) (by omega)]
    by_cases c1 : (L[m * e + i]'hlt).1 = (m : Int)
    · rw [if_neg (by simp [c1])]
      by_cases c2 : (L[m * e + i]'hlt).2.1 = ((i + 1 : Nat) : Int)
      · rw [if_neg (by simp [c2])]
        have hset : xset (chk e L m) (i : Int) (fun x : Pl => (x.1, x.2.1, x.2.2.1, x.2.2.2.1, (L[m * e + i]'hlt).2.2.2.2)) = some (chk e L m) := by
          unfold xset
          rw [toNat_nat, hg, Option.map_some]
          congr 1
          have h2 : (chk e L m)[i]'(by omega) = L[m * e + i]'hlt := by
            rw [List.getElem?_eq_getElem (by omega)] at hg
            exact Option.some.inj hg
          show (chk e L m).set i (L[m * e + i]'hlt) = chk e L m
          rw [← h2, List.set_getElem_self]
        rw [xclo_ok (hit _ hlt) (by omega), Option.bind_some, hset, Option.bind_some]
        refine ih (i + 1) k (by omega) (by omega) ?_
        obtain ⟨i', h1, h2, h3⟩ := hf
        refine ⟨i', ?_, h2, h3⟩
        rcases Nat.eq_or_lt_of_le h1 with rfl | h4
        · refine absurd (fun _ => ⟨?_, ?_⟩) h3
          · rw [g1]; exact c1
          · rw [g2, c2]; omega
        · omega
      · rw [if_pos (by simp; omega)]
    · rw [if_pos (by simp; omega)]
theorem l0Loop (K : Nat) (hK : 1000 ≤ K) {e N : Nat} {L : List Pl} (he : e = 1 ∨ e = 2) (hN : L.length = N * e) (hL : L.length ≤ 60) (hit : ∀ i, ∀ h : i < L.length, (L[i]'h).2.2.2.2.length ≤ 400) :
    ∀ (d n k : Nat), n + d = N → d + 1 ≤ k → (((∀ i, n * e ≤ i → i < L.length → fine e L i) ∧ sheet_Pairs.l0 K L (e : Int) k ((n * e : Nat) : Int) (chs e L n) = some (chs e L N, true)) ∨ ((∃ i, n * e ≤ i ∧ i < L.length ∧ ¬ fine e L i) ∧ sheet_Pairs.l0 K L (e : Int) k ((n * e : Nat) : Int) (chs e L n) = some ([], false))) := by
  intro d
  induction d with
  | zero =>
    intro n k hd hk
    obtain rfl : n = N := by omega
    obtain ⟨k, rfl⟩ : ∃ k', k = k' + 1 := ⟨k - 1, by omega⟩
    refine .inl ⟨fun i h1 h2 => by omega, ?_⟩
    rw [sheet_Pairs.l0, if_neg (by simp; omega)]
  | succ d ih =>
    intro n k hd hk
    obtain ⟨k, rfl⟩ : ∃ k', k = k' + 1 := ⟨k - 1, by omega⟩
    have hle : (n + 1) * e ≤ L.length := by rw [hN]; exact Nat.mul_le_mul_right e (by omega)
    have hlt : n * e < L.length := by rw [Nat.add_mul] at hle; omega
    have hnn : n ≤ 60 := by
      have := Nat.le_mul_of_pos_right n (show 0 < e by omega)
      omega
    have hcs : (chs e L n).length ≤ 60 := by simp [chs]; omega
    have hne : ((n * e : Nat) : Int) ≤ (((n + 1) * e : Nat) : Int) := by rw [Nat.add_mul]; omega
    have hi0 : ((0 : Nat) : Int) = 0 := rfl
    have step : sheet_Pairs.l0 K L (e : Int) (k + 1) ((n * e : Nat) : Int) (chs e L n) = sheet_Pairs.l1 (fun y0 y1 => sheet_Pairs.l0 K L (e : Int) k y0 y1) (e : Int) ((n * e : Nat) : Int) (chs e L n) (chk e L n) K ((0 : Nat) : Int) (chk e L n) := by
      rw [sheet_Pairs.l0, if_pos (by simp; omega), if_pos (decide_eq_true (Int.natCast_nonneg _)), (wr_me he hle hL).1, if_pos (by simp only [decide_eq_true_eq]; exact hne), if_pos (by simp only [decide_eq_true_eq]; omega), if_pos (by simp), xsub_chk hle, Option.bind_some, xclo_ok (by rw [chk_len hle]; omega) (by omega), Option.bind_some]
      rfl
    rw [step]
    by_cases hb : ∃ i', 0 ≤ i' ∧ i' < e ∧ ¬ fine e L (n * e + i')
    · refine .inr ⟨?_, l1Bad _ he hle hL hit _ e 0 K (by omega) (by omega) hb⟩
      obtain ⟨i', _, h2, h3⟩ := hb
      exact ⟨n * e + i', by omega, by rw [Nat.add_mul] at hle; omega, h3⟩
    · have hall : ∀ i', 0 ≤ i' → i' < e → fine e L (n * e + i') := fun i' h1 h2 => Classical.byContradiction fun h3 => hb ⟨i', h1, h2, h3⟩
      rw [l1Loop _ he hle hL hit _ hcs e 0 K (by omega) (by omega) hall, ← chs_succ]
      rcases ih (n + 1) k (by omega) (by omega) with ⟨q1, q2⟩ | ⟨⟨i, q1, q2, q3⟩, q4⟩
      · refine .inl ⟨fun i h1 h2 => ?_, q2⟩
        rcases Nat.lt_or_ge i ((n + 1) * e) with c | c
        · have := hall (i - n * e) (by omega) (by rw [Nat.add_mul] at c; omega)
          rwa [show n * e + (i - n * e) = i by omega] at this
        · exact q1 i c h2
      · exact .inr ⟨⟨i, by rw [Nat.add_mul] at q1; omega, q2, q3⟩, q4⟩
theorem platesSelf (K : Nat) (hK : 1000 ≤ K) (a : List Pl) (hl : a.length ≤ 60) (hit : ∀ p ∈ a, p.2.2.2.2.length ≤ 400) : ∀ (d n k : Nat), n + d = a.length → d + 1 ≤ k → gatherumref24_Plates.l0 K a a k (n : Int) = some true := by
  intro d
  induction d with
  | zero =>
    intro n k hd hk
    obtain ⟨k, rfl⟩ : ∃ k', k = k' + 1 := ⟨k - 1, by omega⟩
    rw [gatherumref24_Plates.l0, if_neg (by simp; omega)]
  | succ d ih =>
    intro n k hd hk
    obtain ⟨k, rfl⟩ : ∃ k', k = k' + 1 := ⟨k - 1, by omega⟩
    have hn : n < a.length := by omega
    have h4 := hit _ (List.getElem_mem hn)
    rw [gatherumref24_Plates.l0, if_pos (by simp; omega), if_pos (by simp), toNat_nat, List.getElem?_eq_getElem hn, Option.bind_some, if_pos (by simp; omega), Option.bind_some, if_neg (by simp), if_neg (by simp), if_neg (by simp), if_neg (by simp), sameSelf K _ (by omega) (by omega), Option.bind_some, if_neg (by decide), wsucc hn (by omega)]
    exact ih (n + 1) k (by omega) (by omega)
theorem platesOk (K : Nat) (hK : 1000 ≤ K) (a : List Pl) (hl : a.length ≤ 60) (hit : ∀ p ∈ a, p.2.2.2.2.length ≤ 400) : gatherumref24_Plates.f K a a = some true := by
  rw [gatherumref24_Plates.f, if_neg (by simp)]
  exact platesSelf K hK a hl hit a.length 0 K (by omega) (by omega)
theorem l2Loop (K : Nat) (hK : 1000 ≤ K) {e N : Nat} {s : Int} {L : List Pl} (hs : wrap64 (2 - wrap64 (Int.tdiv (wrap64 (s - 1)) 2)) = (e : Int)) (he : e = 1 ∨ e = 2) (hN : L.length = N * e) (hL : L.length ≤ 60) (hit : ∀ i, ∀ h : i < L.length, (L[i]'h).2.2.2.2.length ≤ 400) :
    ∀ (d n k : Nat), n + d = N → d + 1 ≤ k → gatherumlaw37_SheetPairs.l2 K s L (chs e L N) k (n : Int) = some true := by
  have hcl : (chs e L N).length = N := by simp [chs]
  have hNN : N ≤ 60 := by
    have := Nat.le_mul_of_pos_right N (show 0 < e by omega)
    omega
  intro d
  induction d with
  | zero =>
    intro n k hd hk
    obtain ⟨k, rfl⟩ : ∃ k', k = k' + 1 := ⟨k - 1, by omega⟩
    rw [gatherumlaw37_SheetPairs.l2, if_neg (by simp; omega)]
  | succ d ih =>
    intro n k hd hk
    obtain ⟨k, rfl⟩ : ∃ k', k = k' + 1 := ⟨k - 1, by omega⟩
    have hle : (n + 1) * e ≤ L.length := by rw [hN]; exact Nat.mul_le_mul_right e (by omega)
    have hne : ((n * e : Nat) : Int) ≤ (((n + 1) * e : Nat) : Int) := by rw [Nat.add_mul]; omega
    have hg : (chs e L N)[n]? = some (chk e L n) := by
      simp only [chs, List.getElem?_map]
      rw [List.getElem?_range (by omega)]; rfl
    have hmem : ∀ p ∈ chk e L n, p.2.2.2.2.length ≤ 400 := fun p hp => by
      have : p ∈ L := List.mem_of_mem_take (List.mem_of_mem_drop hp)
      obtain ⟨i, hi, rfl⟩ := List.getElem_of_mem this
      exact hit i hi
    rw [gatherumlaw37_SheetPairs.l2, if_pos (by simp; omega), if_pos (by simp), toNat_nat, hg, Option.bind_some, hs, wsucc (m := 60) (by omega) (by omega), (wr_me he hle hL).2.1, (wr_me he hle hL).2.2.1, if_pos (decide_eq_true (Int.natCast_nonneg _)), if_pos (by simp only [decide_eq_true_eq]; exact hne), if_pos (by simp only [decide_eq_true_eq]; omega), xsub_chk hle, Option.bind_some, platesOk K hK _ (by rw [chk_len hle]; omega) hmem, Option.bind_some, if_neg (by decide)]
    exact ih (n + 1) k (by omega) (by omega)
/-- What the law says at the end of its first loop. -/
noncomputable def fin (K : Nat) (s : Int) (L : List Pl) (got : List (List Pl)) (ok x : Bool) : Option Bool := (if (!(ok == x)) = true then some false else (if (!ok) = true then (if (decide (0 < ((got.length : Nat) : Int))) = true then some false else (gatherumlaw37_SheetPairs.l1 K)) else (if (!(((got.length : Nat) : Int) == (wrap64 (Int.tdiv ((L.length : Nat) : Int) (wrap64 (2 - (wrap64 (Int.tdiv (wrap64 (s - 1)) 2)))))))) = true then some false else (gatherumlaw37_SheetPairs.l2 K s L got K 0))))
open Classical in
theorem lawLoop (K : Nat) {e : Nat} {s : Int} {L : List Pl} (hs : wrap64 (2 - wrap64 (Int.tdiv (wrap64 (s - 1)) 2)) = (e : Int)) (he : e = 1 ∨ e = 2) (hL : L.length ≤ 60) (got : List (List Pl)) (ok : Bool) :
    ∀ (d n k : Nat) (x : Bool), n + d = L.length → d + 1 ≤ k → gatherumlaw37_SheetPairs.l0 K s L got ok k (n : Int) x = fin K s L got ok (x && decide (∀ i, n ≤ i → i < L.length → fine e L i)) := by
  intro d
  induction d with
  | zero =>
    intro n k x hd hk
    obtain ⟨k, rfl⟩ : ∃ k', k = k' + 1 := ⟨k - 1, by omega⟩
    rw [gatherumlaw37_SheetPairs.l0, if_neg (by simp; omega)]
    have : decide (∀ i, n ≤ i → i < L.length → fine e L i) = true := decide_eq_true fun i h1 h2 => by omega
    rw [this, Bool.and_true]
    rfl
  | succ d ih =>
    intro n k x hd hk
    obtain ⟨k, rfl⟩ : ∃ k', k = k' + 1 := ⟨k - 1, by omega⟩
    have hn : n < L.length := by omega
    have hfalse : ∀ b : Bool, (false && b) = false := fun b => rfl
    cases x with
    | false =>
      rw [gatherumlaw37_SheetPairs.l0, if_pos (by simp; omega), if_neg (by decide), wsucc hn (by omega), ih (n + 1) k false (by omega) (by omega)]
      rfl
    | true =>
      have hdiv : wrap64 (Int.tdiv (n : Int) (e : Int)) = ((n / e : Nat) : Int) := by
        rw [Int.tdiv_eq_ediv_of_nonneg (by omega)]
        rcases he with rfl | rfl <;> rw [wrap_id (by omega) (by omega)] <;> omega
      have hmod : wrap64 (1 + Int.tmod (n : Int) (e : Int)) = 1 + ((n % e : Nat) : Int) := by
        rw [Int.tmod_eq_emod_of_nonneg (by omega)]
        rcases he with rfl | rfl <;> rw [wrap_id (by omega) (by omega)] <;> omega
      rw [gatherumlaw37_SheetPairs.l0, if_pos (by simp; omega), if_pos rfl, if_pos (by simp), toNat_nat, List.getElem?_eq_getElem hn, Option.bind_some, hs, hdiv, hmod, wsucc hn (by omega)]
      have key : decide (∀ i, n ≤ i → i < L.length → fine e L i) = (decide (fine e L n) && decide (∀ i, n + 1 ≤ i → i < L.length → fine e L i)) := by
        rw [← Bool.decide_and]
        refine decide_eq_decide.2 ⟨fun h => ⟨h n (by omega) hn, fun i h1 h2 => h i (by omega) h2⟩, fun ⟨h1, h2⟩ i h3 h4 => ?_⟩
        rcases Nat.eq_or_lt_of_le h3 with rfl | h5
        · exact h1
        · exact h2 i h5 h4
      rw [Bool.true_and, key]
      by_cases c1 : (L[n]'hn).1 = ((n / e : Nat) : Int)
      · rw [if_pos (by simp only [beq_iff_eq]; exact c1), ih (n + 1) k _ (by omega) (by omega)]
        congr 2
        by_cases c2 : (L[n]'hn).2.1 = 1 + ((n % e : Nat) : Int)
        · rw [decide_eq_true (show fine e L n from fun _ => ⟨c1, c2⟩)]; simp only [beq_iff_eq]; exact c2
        · rw [decide_eq_false (show ¬ fine e L n from fun h => c2 (h hn).2)]; exact beq_eq_false_iff_ne.2 c2
      · rw [if_neg (by simp only [beq_iff_eq]; exact c1), ih (n + 1) k false (by omega) (by omega), decide_eq_false (show ¬ fine e L n from fun h => c1 (h hn).1)]
theorem SheetPairs (a0_0 : ByteArray) (a0_1 : Int) (a0_2 : Int) (a0_3 : Int) (a0_4 : Int) (a0_5 : Int) (a0_6 : Int) (a0_7 : Int) (a0_8 : Int) (a0_9 : Int) (a0_10 : Int) (a0_11 : Int) (a0_12 : Int) (a0_13 : Int) (a0_14 : Ov) (a0_15 : Ov) (a0_16 : Int) (a0_17 : Int) (a0_18 : Int) (a0_19 : Int) (a0_20 : Int) (a0_21 : Int) (a0_22 : Int) (a0_23 : Int) (a0_24 : Int) (a0_25 : Int) (a0_26 : Int) (a0_27 : Int) (a0_28 : Int) (a0_29 : Int) (a0_30 : Int) (a0_31 : Int) (a0_32 : Int) (a1_0 : Int) (a1_1 : Int) (a1_2 : Int) (a1_3 : Int) (a1_4 : Int) (a1_5 : List (Int × Int × Int × Int × (List (Int × Int × Int × Int × Int × Int × Int × Int × Int × ByteArray)))) (w0_0 : a0_0.size ≤ maxLen) (w0_1 : (Lit.int .i64 a0_1).wf = true) (w0_2 : (Lit.int .i64 a0_2).wf = true) (w0_3 : (Lit.int .i64 a0_3).wf = true) (w0_4 : (Lit.int .i64 a0_4).wf = true) (w0_5 : (Lit.int .i64 a0_5).wf = true) (w0_6 : (Lit.int .i64 a0_6).wf = true) (w0_7 : (Lit.int .i64 a0_7).wf = true) (w0_8 : (Lit.int .i64 a0_8).wf = true) (w0_9 : (Lit.int .i64 a0_9).wf = true) (w0_10 : (Lit.int .i64 a0_10).wf = true) (w0_11 : (Lit.int .i64 a0_11).wf = true) (w0_12 : (Lit.int .i64 a0_12).wf = true) (w0_13 : (Lit.int .i64 a0_13).wf = true) (w0_16 : (Lit.int .i64 a0_16).wf = true) (w0_17 : (Lit.int .i64 a0_17).wf = true) (w0_18 : (Lit.int .i64 a0_18).wf = true) (w0_19 : (Lit.int .i64 a0_19).wf = true) (w0_20 : (Lit.int .i64 a0_20).wf = true) (w0_21 : (Lit.int .i64 a0_21).wf = true) (w0_22 : (Lit.int .i64 a0_22).wf = true) (w0_23 : (Lit.int .i64 a0_23).wf = true) (w0_24 : (Lit.int .i64 a0_24).wf = true) (w0_25 : (Lit.int .i64 a0_25).wf = true) (w0_26 : (Lit.int .i64 a0_26).wf = true) (w0_27 : (Lit.int .i64 a0_27).wf = true) (w0_28 : (Lit.int .i64 a0_28).wf = true) (w0_29 : (Lit.int .i64 a0_29).wf = true) (w0_30 : (Lit.int .i64 a0_30).wf = true) (w0_31 : (Lit.int .i64 a0_31).wf = true) (w0_32 : (Lit.int .i64 a0_32).wf = true) (w1_0 : (Lit.int .i64 a1_0).wf = true) (w1_1 : (Lit.int .i64 a1_1).wf = true) (w1_2 : (Lit.int .i64 a1_2).wf = true) (w1_3 : (Lit.int .i64 a1_3).wf = true) (w1_4 : (Lit.int .i64 a1_4).wf = true) (w1_5 : (a1_5.length ≤ maxLen ∧ ∀ x ∈ a1_5, ok_iiiiLiiiiiiiiis_ x)) : ∃ K : Nat, gatherumlaw37_SheetPairs.f K a0_0 a0_1 a0_2 a0_3 a0_4 a0_5 a0_6 a0_7 a0_8 a0_9 a0_10 a0_11 a0_12 a0_13 a0_14 a0_15 a0_16 a0_17 a0_18 a0_19 a0_20 a0_21 a0_22 a0_23 a0_24 a0_25 a0_26 a0_27 a0_28 a0_29 a0_30 a0_31 a0_32 a1_0 a1_1 a1_2 a1_3 a1_4 a1_5 = some true := by
  obtain ⟨K, hK0⟩ : ∃ K : Nat, K = 2000 := ⟨_, rfl⟩
  have alive : gatherumlaw37_alive.f (K + 50) = some true := by rw [hK0]; exact alive
  have hK : 1000 ≤ K := by omega
  clear hK0
  refine ⟨K + 50, ?_⟩
  unfold gatherumlaw37_SheetPairs.f
  rw [alive, Option.bind_some, if_neg (by decide)]
  obtain ⟨b, e1, e2⟩ := lightOk (K + 50) (by omega) a1_5
  rw [e1, Option.bind_some]
  cases b
  · rfl
  rw [if_neg (by decide)]
  obtain ⟨hl, hi⟩ := e2 rfl
  unfold sheet_Pairs.f
  rw [qPlates, Option.bind_some]
  rcases qbFirst a0_0 a0_1 a0_2 a0_3 a0_4 a0_5 a0_6 a0_7 a0_8 a0_9 a0_10 a0_11 a0_12 a0_13 a0_14 a0_15 a0_16 a0_17 a0_18 a0_19 a0_20 a0_21 a0_22 a0_23 a0_24 a0_25 a0_26 a0_27 a0_28 a0_29 a0_30 a0_31 a0_32 with ⟨h, e⟩ | ⟨h, v, e, hv⟩
  · rcases q15Both K a0_0 a0_1 a0_2 a0_3 a0_4 a0_5 a0_6 a0_7 a0_8 a0_9 a0_10 a0_11 a0_12 a0_13 a0_14 a0_15 a0_16 a0_17 a0_18 a0_19 a0_20 a0_21 a0_22 a0_23 a0_24 a0_25 a0_26 a0_27 a0_28 a0_29 a0_30 a0_31 a0_32 with ⟨g, e'⟩ | ⟨g, v, e', hv⟩
    case inr => exact absurd h g
    have hs := may_s a0_0 a0_1 a0_2 a0_3 a0_4 a0_5 a0_6 a0_7 a0_8 a0_9 a0_10 a0_11 a0_12 a0_13 a0_14 a0_15 a0_16 a0_17 a0_18 a0_19 a0_20 a0_21 a0_22 a0_23 a0_24 a0_25 a0_26 a0_27 a0_28 a0_29 a0_30 a0_31 a0_32 h
    obtain ⟨ee, hp, he⟩ := plt_nat _ hs
    have hE := eachL _ hs
    rw [hp] at hE
    rw [e, Option.bind_some, if_neg (by decide), hp, if_neg (by rcases he with rfl | rfl <;> decide), e']
    have hdec : decide ((0 : Int) ≤ -1) = false := by decide
    have hmod : Int.tmod ((a1_5.length : Nat) : Int) (ee : Int) = ((a1_5.length % ee : Nat) : Int) := by
      rw [Int.tmod_eq_emod_of_nonneg (by omega)]; omega
    have hne0 : ¬ (((ee : Int)) == 0) = true := by rcases he with rfl | rfl <;> decide
    rw [hmod]
    by_cases hm : a1_5.length % ee = 0
    · rw [hm, if_neg (by simp)]
      have hN : a1_5.length = (a1_5.length / ee) * ee := by rw [Nat.div_mul_cancel (Nat.dvd_of_mod_eq_zero hm)]
      have L0 := l0Loop (K + 50) (by omega) he hN hl hi (a1_5.length / ee) 0 (K + 50) (by omega) (by
        have := Nat.div_le_self a1_5.length ee; omega)
      rw [Nat.zero_mul] at L0
      have hchs0 : chs ee a1_5 0 = [] := rfl
      have hz : ((0 : Nat) : Int) = 0 := rfl
      rw [hchs0, hz] at L0
      rcases L0 with ⟨q1, q2⟩ | ⟨⟨i, q0, q1, q2⟩, q3⟩
      · rw [q2, Option.bind_some, Option.bind_some, if_neg (by decide), hE, if_neg hne0, hmod, hm]
        have Q := lawLoop (K + 50) hE he hl (chs ee a1_5 (a1_5.length / ee)) true a1_5.length 0 (K + 50) (((0 : Nat) : Int) == 0) (by omega) (by omega)
        rw [hz] at Q ⊢
        refine Q.trans ?_
        have hd : @decide (∀ i, 0 ≤ i → i < a1_5.length → fine ee a1_5 i) (Classical.propDecidable _) = true := @decide_eq_true _ (Classical.propDecidable _) q1
        rw [hd]
        unfold fin
        have hdiv : wrap64 (Int.tdiv ((a1_5.length : Nat) : Int) (ee : Int)) = ((a1_5.length / ee : Nat) : Int) := by
          rw [Int.tdiv_eq_ediv_of_nonneg (by omega)]
          rcases he with rfl | rfl <;> rw [wrap_id (by omega) (by omega)] <;> omega
        rw [if_neg (by decide), if_neg (by decide), hE, hdiv, if_neg (by simp [chs])]
        have L2 := l2Loop (K + 50) (by omega) hE he hN hl hi (a1_5.length / ee) 0 (K + 50) (by omega) (by
          have := Nat.div_le_self a1_5.length ee; omega)
        exact L2
      · rw [q3, Option.bind_some, Option.bind_some, if_neg (by decide), hE, if_neg hne0, hmod, hm]
        have Q := lawLoop (K + 50) hE he hl [] false a1_5.length 0 (K + 50) (((0 : Nat) : Int) == 0) (by omega) (by omega)
        rw [hz] at Q ⊢
        refine Q.trans ?_
        have hd : @decide (∀ i, 0 ≤ i → i < a1_5.length → fine ee a1_5 i) (Classical.propDecidable _) = false := @decide_eq_false _ (Classical.propDecidable _) fun h => q2 (h i (by omega) q1)
        rw [hd]
        obtain ⟨k', hk'⟩ : ∃ k', K + 50 = k' + 1 := ⟨K + 49, by omega⟩
        unfold fin
        rw [hk']
        rfl
    · rw [if_pos (by simp; omega), Option.bind_some, Option.bind_some, if_neg (by decide), hE, if_neg hne0, hmod]
      have Q := lawLoop (K + 50) hE he hl [] false a1_5.length 0 (K + 50) ((((a1_5.length % ee : Nat) : Int)) == 0) (by omega) (by omega)
      have hz : ((0 : Nat) : Int) = 0 := rfl
      rw [hz] at Q
      refine Q.trans ?_
      have hb : ((((a1_5.length % ee : Nat) : Int)) == 0) = false := beq_eq_false_iff_ne.2 (by omega)
      rw [hb]
      obtain ⟨k', hk'⟩ : ∃ k', K + 50 = k' + 1 := ⟨K + 49, by omega⟩
      unfold fin
      rw [hk']
      rfl
  · rcases q15Both K a0_0 a0_1 a0_2 a0_3 a0_4 a0_5 a0_6 a0_7 a0_8 a0_9 a0_10 a0_11 a0_12 a0_13 a0_14 a0_15 a0_16 a0_17 a0_18 a0_19 a0_20 a0_21 a0_22 a0_23 a0_24 a0_25 a0_26 a0_27 a0_28 a0_29 a0_30 a0_31 a0_32 with ⟨g, e'⟩ | ⟨g, v', e', hv'⟩
    · exact absurd g h
    rw [e, Option.bind_some, if_pos (by simp; omega), Option.bind_some, e', Option.bind_some, if_pos (by simp; omega), if_pos (by decide)]
    rfl
end Go.Proofs.Ytbliieckbdacnaa.PureSheetPairs
