/- The plain law TrimWhole, over the functions that the executor tells: no Go, no memory. -/
import Derived.Test.YthgmjhidigoneaaXTrimWhole
import Derived.Test.YthgmjhidigoneaaAid
namespace Go.Proofs.Ythgmjhidigoneaa.PureTrimWhole
open Go Go.RowKit Go.Proofs.Ythgmjhidigoneaa.Sy Go.Proofs.Ythgmjhidigoneaa.XTrimWhole Go.Proofs.Ythgmjhidigoneaa.Aid
set_option linter.unusedVariables false
set_option linter.unusedSimpArgs false

set_option maxRecDepth 100000
/-! ### words of the plain laws -/
def emp (a b c d : Int) : Prop := c ≤ a ∨ d ≤ b
instance (a b c d : Int) : Decidable (emp a b c d) := by unfold emp; infer_instance
/-- A rectangle, brought by a place. -/
def bxm (t ax ay a b c d : Int) : Int × Int × Int × Int :=
  (min (wrap64 ((D t a b).1 + ax)) (wrap64 ((D t c d).1 + ax)), min (wrap64 ((D t a b).2 + ay)) (wrap64 ((D t c d).2 + ay)), max (wrap64 ((D t a b).1 + ax)) (wrap64 ((D t c d).1 + ax)), max (wrap64 ((D t a b).2 + ay)) (wrap64 ((D t c d).2 + ay)))
/-- How many plates a sheet has; how it is turned over; where may be printed; where a block may be. -/
def plt (s : Int) : Int := if s = 1 ∨ s = 2 then 2 else if s = 3 ∨ s = 4 then 1 else 0
def flp (s w h : Int) : Int × Int × Int := if plt s = 0 then (0, 0, 0) else if s = 2 ∨ s = 4 then (6, 0, h) else (4, w, 0)
def are (s w h side g t : Int) : Int × Int × Int × Int := if plt s = 0 then (0, 0, 0, 0) else if s = 2 ∨ s = 4 then (side, max g t, wrap64 (w - side), wrap64 (h - max g t)) else (side, g, wrap64 (w - side), wrap64 (h - t))
def reg (s w h : Int) (a : Int × Int × Int × Int) : Int × Int × Int × Int := if s = 3 then (a.1, a.2.1, min a.2.2.1 (w / 2), a.2.2.2) else if s = 4 then (a.1, a.2.1, a.2.2.1, min a.2.2.2 (h / 2)) else a
theorem plt_zero (s : Int) : plt s = 0 ↔ s < 1 ∨ s > 4 := by
  unfold plt
  by_cases h1 : s = 1 ∨ s = 2
  · rw [if_pos h1]; omega
  · rw [if_neg h1]; by_cases h2 : s = 3 ∨ s = 4
    · rw [if_pos h2]; omega
    · rw [if_neg h2]; omega
theorem min_R {a b : Int} (ha : R a) (hb : R b) : R (min a b) := by unfold R at *; omega
theorem max_R {a b : Int} (ha : R a) (hb : R b) : R (max a b) := by unfold R at *; omega
theorem are_R {s w h side g t : Int} (h1 : R side) (h2 : R g) (h3 : R t) : R (are s w h side g t).1 ∧ R (are s w h side g t).2.1 ∧ R (are s w h side g t).2.2.1 ∧ R (are s w h side g t).2.2.2 := by
  unfold are
  have h0 : R 0 := by unfold R; omega
  split
  · exact ⟨h0, h0, h0, h0⟩
  · split
    · exact ⟨h1, max_R h2 h3, R_wrap _, R_wrap _⟩
    · exact ⟨h1, h2, R_wrap _, R_wrap _⟩
theorem mni_eq (a b : Int) : mni a b = min a b := by unfold mni; split <;> omega
theorem mxi_eq (a b : Int) : mxi a b = max a b := by unfold mxi; split <;> omega
/-- A panel's size. -/
def psz (a b c x y z : Int) : Int × Int := (wrap64 (wrap64 (c + a) + b), wrap64 (wrap64 (z + x) + y))
def mt (a b c d a' b' c' d' : Int) : Int × Int × Int × Int := if emp (max a a') (max b b') (min c c') (min d d') then (0, 0, 0, 0) else (max a a', max b b', min c c', min d d')
def wit (a b c d a' b' c' d' : Int) : Prop := emp a b c d ∨ (a' ≤ a ∧ c ≤ c' ∧ b' ≤ b ∧ d ≤ d')
instance (a b c d a' b' c' d' : Int) : Decidable (wit a b c d a' b' c' d') := by unfold wit; infer_instance
theorem q04_Empty (a b c d : Int) : gatherumref04_Empty.f a b c d = some (decide (emp a b c d)) := by
  unfold gatherumref04_Empty.f emp
  by_cases h : c ≤ a <;> simp [h]
theorem q20Size (j0 : ByteArray) (j1 j2 j3 j4 j5 j6 j7 j8 j9 j10 j11 j12 j13 : Int) (j14 j15 : Ov) (j16 j17 j18 j19 j20 j21 j22 j23 j24 j25 j26 j27 j28 j29 j30 j31 j32 : Int) : gatherumref20_Size.f j0 j1 j2 j3 j4 j5 j6 j7 j8 j9 j10 j11 j12 j13 j14 j15 j16 j17 j18 j19 j20 j21 j22 j23 j24 j25 j26 j27 j28 j29 j30 j31 j32 = some (psz j4 j9 j10 j5 j7 j8) := rfl
theorem q03_Do (t x y : Int) (hx : R x) (hy : R y) : gatherumref03_Do.f (M t).1 (M t).2.1 (M t).2.2.1 (M t).2.2.2 x y = some (D t x y) := by
  have h1 : wrap64 x = x := R_id hx
  have h2 : wrap64 y = y := R_id hy
  rcases eight t with h | h | h | h | h | h | h | h <;>
    simp [gatherumref03_Do.f, M, D, h, wl0, h1, h2, wrap_wrap, wnn hx, wnn hy]
theorem tm4 (x : Int) (h : 0 ≤ x) : Int.tmod x 4 = x % 4 := Int.tmod_eq_emod_of_nonneg h
theorem q03_Of (K : Nat) (t : Int) : gatherumref03_Of.f (K + 50) t = some (M t) := by
  rcases eight t with h | h | h | h | h | h | h | h <;>
    simp [gatherumref03_Of.f, and7, h, gatherumref03_Of.l0, gatherumref03_Of.l1, M, wl0, wl1, wl2, wl3, wm1, tm4]
theorem q04_Do (K : Nat) (t ax ay x y : Int) (hx : R x) (hy : R y) : gatherumref04_Do.f (K + 50) t ax ay x y = some (wrap64 ((D t x y).1 + ax), wrap64 ((D t x y).2 + ay)) := by
  simp only [gatherumref04_Do.f, q03_Of K t, Option.bind_some, q03_Do t x y hx hy]
theorem q04_low (a b : Int) : gatherumref04_low.f a b = some (min a b) := by
  unfold gatherumref04_low.f
  by_cases h : a < b
  · rw [if_pos (by simpa using h)]; congr 1; omega
  · rw [if_neg (by simpa using h)]; congr 1; omega
theorem q04_high (a b : Int) : gatherumref04_high.f a b = some (max a b) := by
  unfold gatherumref04_high.f
  by_cases h : b < a
  · rw [if_pos (by simpa using h)]; congr 1; omega
  · rw [if_neg (by simpa using h)]; congr 1; omega
theorem q04_Box (K : Nat) (t ax ay a b c d : Int) (ha : R a) (hb : R b) (hc : R c) (hd : R d) : gatherumref04_Box.f (K + 50) t ax ay a b c d = some (bxm t ax ay a b c d) := by
  simp only [gatherumref04_Box.f, q04_Do K _ _ _ _ _ ha hb, q04_Do K _ _ _ _ _ hc hd, Option.bind_some, q04_low, q04_high, bxm]
theorem qTurnDo (K : Nat) (t x y : Int) (hx : R x) (hy : R y) : turn_Do.f (K + 50) t x y = some (D t x y) := by
  have h4 : t % 4 = t % 8 % 4 := by omega
  rcases eight t with h | h | h | h | h | h | h | h <;> rw [h] at h4 <;>
    simp [turn_Do.f, turn_Mirrors.f, and4, and3, h, h4, turn_Do.l0, turn_Do.l1, D, wl1, wl2, wl3, wnn hx, wnn hy]
theorem qPlaceDo (K : Nat) (t ax ay x y : Int) (hx : R x) (hy : R y) : place_Do.f (K + 50) t ax ay x y = some (wrap64 ((D t x y).1 + ax), wrap64 ((D t x y).2 + ay)) := by
  simp only [place_Do.f, qTurnDo K _ _ _ hx hy, Option.bind_some]
theorem qTurnThen (a b : Int) : turn_Then.f a b = some (th a b) := by
  unfold turn_Then.f turn_Mirrors.f th
  simp only [Option.bind_some, xor4, and3, wrap_m4, or34 _ _ (c04 _)]
  simp only [and4]
  by_cases h : b % 8 < 4 <;> simp [h]
theorem qPlaceThen (K : Nat) (t x y t' x' y' : Int) (hx : R x) (hy : R y) : place_Then.f (K + 50) t x y t' x' y' = some (th t t', wrap64 ((D t' x y).1 + x'), wrap64 ((D t' x y).2 + y')) := by
  simp only [place_Then.f, qPlaceDo K _ _ _ _ _ hx hy, qTurnThen, Option.bind_some]
theorem qPlaceBox (K : Nat) (t ax ay a b c d : Int) (ha : R a) (hb : R b) (hc : R c) (hd : R d) : place_Box.f (K + 50) t ax ay a b c d = some (bxm t ax ay a b c d) := by
  simp only [place_Box.f, qPlaceDo K _ _ _ _ _ ha hb, qPlaceDo K _ _ _ _ _ hc hd, Option.bind_some, mni_eq, mxi_eq, bxm]
theorem qbEmpty (a b c d : Int) : box_Empty.f a b c d = some (decide (emp a b c d)) := by
  unfold box_Empty.f emp
  by_cases h : c ≤ a <;> simp [h]
theorem qTurnBack (a : Int) : turn_Back.f a = some (bk a) := by
  unfold turn_Back.f turn_Mirrors.f bk
  simp only [Option.bind_some, and4, and7, and3]
  by_cases h : a % 8 < 4
  · simp [h]; unfold wrap64; omega
  · simp [h]
theorem qPlaceBack (K : Nat) (t x y : Int) (hx : R x) (hy : R y) : place_Back.f (K + 50) t x y = some (bk t, wrap64 (-(D (bk t) x y).1), wrap64 (-(D (bk t) x y).2)) := by
  simp only [place_Back.f, qTurnBack, qTurnDo K _ _ _ hx hy, Option.bind_some, Int.zero_sub]
theorem qbMeet (a b c d a' b' c' d' : Int) : box_Meet.f a b c d a' b' c' d' = some (mt a b c d a' b' c' d') := by
  simp only [box_Meet.f, qbEmpty, Option.bind_some, mni_eq, mxi_eq, mt]
  by_cases h : emp (max a a') (max b b') (min c c') (min d d') <;> simp [h]
theorem first_loop (A F T : List Int) (n : Nat) (hA : A.length = n) (hF : F.length = n) (hT : T.length = n) (hn : n < 1000000) :
    ∀ (d k i : Nat), i + d = n → d < k → (∃ v, gatherumref15_First.l0 A F T k i = some v ∧ 0 ≤ v) ∨ (gatherumref15_First.l0 A F T k i = some (-1) ∧ ∀ j, i ≤ j → j < n → ∀ a f t, A[j]? = some a → F[j]? = some f → T[j]? = some t → f ≤ a ∧ a ≤ t) := by
  intro d
  induction d with
  | zero =>
    intro k i hi hk
    obtain ⟨k, rfl⟩ : ∃ m, k = m + 1 := ⟨k - 1, by omega⟩
    refine Or.inr ⟨?_, fun j h1 h2 => by omega⟩
    rw [gatherumref15_First.l0, if_neg (by simp; omega)]
  | succ d ih =>
    intro k i hi hk
    obtain ⟨k, rfl⟩ : ∃ m, k = m + 1 := ⟨k - 1, by omega⟩
    rw [gatherumref15_First.l0]
    have hAi : A[i]? = some A[i] := List.getElem?_eq_getElem (by omega)
    have hFi : F[i]? = some F[i] := List.getElem?_eq_getElem (by omega)
    have hTi : T[i]? = some T[i] := List.getElem?_eq_getElem (by omega)
    have g1 : (decide ((i : Int) < ((A.length : Nat) : Int))) = true := by simp; omega
    have g2 : (decide ((i : Int) < ((F.length : Nat) : Int))) = true := by simp; omega
    have g3 : (decide ((i : Int) < ((T.length : Nat) : Int))) = true := by simp; omega
    have g4 : (decide ((0 : Int) ≤ (i : Int))) = true := by simp
    simp only [Int.toNat_natCast, hAi, hFi, hTi, Option.bind_some, g1, g2, g3, g4, if_true]
    by_cases h1 : A[i] < F[i]
    · rw [if_pos (by simpa using h1)]; exact Or.inl ⟨_, rfl, by omega⟩
    · rw [if_neg (by simpa using h1)]
      by_cases h2 : T[i] < A[i]
      · rw [if_pos (by simpa using h2)]; exact Or.inl ⟨_, rfl, by omega⟩
      · rw [if_neg (by simpa using h2), wrap_id (by omega) (by omega), show (i : Int) + 1 = ((i + 1 : Nat) : Int) by omega]
        rcases ih k (i + 1) (by omega) (by omega) with h | ⟨h, hh⟩
        · exact Or.inl h
        · refine Or.inr ⟨h, fun j hj1 hj2 a f t ha hf ht => ?_⟩
          rcases Nat.lt_or_ge i j with hlt | hge
          · exact hh j hlt hj2 a f t ha hf ht
          · obtain rfl : j = i := by omega
            rw [hAi] at ha; rw [hFi] at hf; rw [hTi] at ht
            cases ha; cases hf; cases ht
            omega
theorem q15First (K : Nat) (j0 : ByteArray) (j1 j2 j3 j4 j5 j6 j7 j8 j9 j10 j11 j12 j13 : Int) (j14 j15 : Ov) (j16 j17 j18 j19 j20 j21 j22 j23 j24 j25 j26 j27 j28 j29 j30 j31 j32 : Int) : (∃ v, gatherumref15_First.f (K + 50) j0 j1 j2 j3 j4 j5 j6 j7 j8 j9 j10 j11 j12 j13 j14 j15 j16 j17 j18 j19 j20 j21 j22 j23 j24 j25 j26 j27 j28 j29 j30 j31 j32 = some v ∧ 0 ≤ v) ∨ (gatherumref15_First.f (K + 50) j0 j1 j2 j3 j4 j5 j6 j7 j8 j9 j10 j11 j12 j13 j14 j15 j16 j17 j18 j19 j20 j21 j22 j23 j24 j25 j26 j27 j28 j29 j30 j31 j32 = some (-1) ∧ (1 ≤ j1 ∧ j1 ≤ 100000) ∧ (-5000000 ≤ j2 ∧ j2 ≤ 5000000) ∧ (-5000000 ≤ j3 ∧ j3 ≤ 5000000) ∧ (1 ≤ j4 ∧ j4 ≤ 5000000) ∧ (1 ≤ j5 ∧ j5 ≤ 5000000) ∧ (0 ≤ j6 ∧ j6 ≤ 5000000) ∧ (0 ≤ j7 ∧ j7 ≤ 5000000) ∧ (0 ≤ j8 ∧ j8 ≤ 5000000) ∧ (0 ≤ j9 ∧ j9 ≤ 5000000) ∧ (0 ≤ j10 ∧ j10 ≤ 5000000) ∧ (1 ≤ j11 ∧ j11 ≤ 4) ∧ (1 ≤ j16 ∧ j16 ≤ 4) ∧ (1 ≤ j17 ∧ j17 ≤ 5000000) ∧ (1 ≤ j18 ∧ j18 ≤ 5000000) ∧ (0 ≤ j19 ∧ j19 ≤ 5000000) ∧ (0 ≤ j20 ∧ j20 ≤ 5000000) ∧ (0 ≤ j21 ∧ j21 ≤ 5000000) ∧ (0 ≤ j22 ∧ j22 ≤ 100000) ∧ (0 ≤ j23 ∧ j23 ≤ 1000) ∧ (1 ≤ j24 ∧ j24 ≤ 1000) ∧ (0 ≤ j25 ∧ j25 ≤ 3) ∧ (0 ≤ j26 ∧ j26 ≤ 5000000) ∧ (0 ≤ j27 ∧ j27 ≤ 5000000) ∧ (0 ≤ j28 ∧ j28 ≤ 5000000) ∧ (0 ≤ j29 ∧ j29 ≤ 5000000) ∧ (0 ≤ j30 ∧ j30 ≤ 5000000) ∧ (1 ≤ j31 ∧ j31 ≤ 1000) ∧ (0 ≤ j32 ∧ j32 ≤ 5000000)) := by
  have h := first_loop [j1, j2, j3, j4, j5, j6, j7, j8, j9, j10, j11, j16, j17, j18, j19, j20, j21, j22, j23, j24, j25, j26, j27, j28, j29, j30, j31, j32] [1, -5000000, -5000000, 1, 1, 0, 0, 0, 0, 0, 1, 1, 1, 1, 0, 0, 0, 0, 0, 1, 0, 0, 0, 0, 0, 0, 1, 0] [100000, 5000000, 5000000, 5000000, 5000000, 5000000, 5000000, 5000000, 5000000, 5000000, 4, 4, 5000000, 5000000, 5000000, 5000000, 5000000, 100000, 1000, 1000, 3, 5000000, 5000000, 5000000, 5000000, 5000000, 1000, 5000000] 28 rfl rfl rfl (by omega) 28 (K + 50) 0 (by omega) (by omega)
  rcases h with h | ⟨h, hh⟩
  · exact Or.inl h
  · refine Or.inr ⟨h, hh 0 (by omega) (by omega) _ _ _ rfl rfl rfl, hh 1 (by omega) (by omega) _ _ _ rfl rfl rfl, hh 2 (by omega) (by omega) _ _ _ rfl rfl rfl, hh 3 (by omega) (by omega) _ _ _ rfl rfl rfl, hh 4 (by omega) (by omega) _ _ _ rfl rfl rfl, hh 5 (by omega) (by omega) _ _ _ rfl rfl rfl, hh 6 (by omega) (by omega) _ _ _ rfl rfl rfl, hh 7 (by omega) (by omega) _ _ _ rfl rfl rfl, hh 8 (by omega) (by omega) _ _ _ rfl rfl rfl, hh 9 (by omega) (by omega) _ _ _ rfl rfl rfl, hh 10 (by omega) (by omega) _ _ _ rfl rfl rfl, hh 11 (by omega) (by omega) _ _ _ rfl rfl rfl, hh 12 (by omega) (by omega) _ _ _ rfl rfl rfl, hh 13 (by omega) (by omega) _ _ _ rfl rfl rfl, hh 14 (by omega) (by omega) _ _ _ rfl rfl rfl, hh 15 (by omega) (by omega) _ _ _ rfl rfl rfl, hh 16 (by omega) (by omega) _ _ _ rfl rfl rfl, hh 17 (by omega) (by omega) _ _ _ rfl rfl rfl, hh 18 (by omega) (by omega) _ _ _ rfl rfl rfl, hh 19 (by omega) (by omega) _ _ _ rfl rfl rfl, hh 20 (by omega) (by omega) _ _ _ rfl rfl rfl, hh 21 (by omega) (by omega) _ _ _ rfl rfl rfl, hh 22 (by omega) (by omega) _ _ _ rfl rfl rfl, hh 23 (by omega) (by omega) _ _ _ rfl rfl rfl, hh 24 (by omega) (by omega) _ _ _ rfl rfl rfl, hh 25 (by omega) (by omega) _ _ _ rfl rfl rfl, hh 26 (by omega) (by omega) _ _ _ rfl rfl rfl, hh 27 (by omega) (by omega) _ _ _ rfl rfl rfl⟩
def nearP (x0 y0 x1 y1 t ax ay : Int) : Prop := (-1099511627776 ≤ x0 ∧ x0 ≤ 1099511627776) ∧ (-1099511627776 ≤ y0 ∧ y0 ≤ 1099511627776) ∧ (-1099511627776 ≤ x1 ∧ x1 ≤ 1099511627776) ∧ (-1099511627776 ≤ y1 ∧ y1 ≤ 1099511627776) ∧ (-1099511627776 ≤ ax ∧ ax ≤ 1099511627776) ∧ (-1099511627776 ≤ ay ∧ ay ≤ 1099511627776) ∧ 0 ≤ t ∧ t ≤ 7
instance (x0 y0 x1 y1 t ax ay : Int) : Decidable (nearP x0 y0 x1 y1 t ax ay) := by unfold nearP; infer_instance
theorem eightv (t : Int) (h : 0 ≤ t ∧ t ≤ 7) : t = 0 ∨ t = 1 ∨ t = 2 ∨ t = 3 ∨ t = 4 ∨ t = 5 ∨ t = 6 ∨ t = 7 := by omega
theorem wS {x : Int} (h : -1000000000000000000 ≤ x ∧ x ≤ 1000000000000000000) : wrap64 x = x := wrap_id (by omega) (by omega)
set_option maxHeartbeats 4000000 in
/-- What lies within where a near rectangle lies, is brought back into the rectangle, and from there to where it was. -/
theorem bx_back (x0 y0 x1 y1 t ax ay a b c d : Int) (hn : nearP x0 y0 x1 y1 t ax ay) (hx : x0 < x1) (hy : y0 < y1) (hab : a < c) (hcd : b < d)
    (l0 : (bxm t ax ay x0 y0 x1 y1).1 ≤ a) (l1 : (bxm t ax ay x0 y0 x1 y1).2.1 ≤ b) (l2 : c ≤ (bxm t ax ay x0 y0 x1 y1).2.2.1) (l3 : d ≤ (bxm t ax ay x0 y0 x1 y1).2.2.2) :
    ∃ p q r s, bxm (bk t) (wrap64 (-(D (bk t) ax ay).1)) (wrap64 (-(D (bk t) ax ay).2)) a b c d = (p, q, r, s) ∧ bxm t ax ay p q r s = (a, b, c, d) ∧ x0 ≤ p ∧ r ≤ x1 ∧ y0 ≤ q ∧ s ≤ y1 ∧ p < r ∧ q < s := by
  obtain ⟨⟨h1, h2⟩, ⟨h3, h4⟩, ⟨h5, h6⟩, ⟨h7, h8⟩, ⟨h9, h10⟩, ⟨h11, h12⟩, h13⟩ := hn
  have r1 : wrap64 (-x0) = -x0 := wS (by omega)
  have r2 : wrap64 (-y0) = -y0 := wS (by omega)
  have r3 : wrap64 (-x1) = -x1 := wS (by omega)
  have r4 : wrap64 (-y1) = -y1 := wS (by omega)
  have r5 : wrap64 (-ax) = -ax := wS (by omega)
  have r6 : wrap64 (-ay) = -ay := wS (by omega)
  rcases eightv t h13 with rfl | rfl | rfl | rfl | rfl | rfl | rfl | rfl
  all_goals
    simp only [bxm, D, bk, Int.reduceMod, Int.reduceNeg, Int.reduceLT, Int.reduceEq, if_true, if_false, r1, r2, r3, r4, r5, r6] at l0 l1 l2 l3 ⊢
    simp (disch := omega) only [wS, Int.neg_neg] at l0 l1 l2 l3
    have ha : -10000000000000 ≤ a ∧ a ≤ 10000000000000 := by omega
    have hb : -10000000000000 ≤ b ∧ b ≤ 10000000000000 := by omega
    have hc : -10000000000000 ≤ c ∧ c ≤ 10000000000000 := by omega
    have hd : -10000000000000 ≤ d ∧ d ≤ 10000000000000 := by omega
    refine ⟨_, _, _, _, rfl, ?_⟩
    simp (disch := omega) only [wS, Int.neg_neg, Prod.mk.injEq]
    refine ⟨⟨?_, ?_, ?_, ?_⟩, ?_, ?_, ?_, ?_, ?_, ?_⟩ <;> omega
theorem R_max {a b : Int} (h : R a) (h' : R b) : R (max a b) := ⟨by have := h.1; omega, by have := h.2; have := h'.2; omega⟩
theorem R_min {a b : Int} (h : R a) (h' : R b) : R (min a b) := ⟨by have := h.1; have := h'.1; omega, by have := h.2; omega⟩
theorem bxm_R (t ax ay x0 y0 x1 y1 : Int) : R (bxm t ax ay x0 y0 x1 y1).1 ∧ R (bxm t ax ay x0 y0 x1 y1).2.1 ∧ R (bxm t ax ay x0 y0 x1 y1).2.2.1 ∧ R (bxm t ax ay x0 y0 x1 y1).2.2.2 :=
  ⟨R_min (R_wrap _) (R_wrap _), R_min (R_wrap _) (R_wrap _), R_max (R_wrap _) (R_wrap _), R_max (R_wrap _) (R_wrap _)⟩
theorem qInR (a b c : Int) : gatherumref01_In.f a b c = some (decide (b ≤ a ∧ a ≤ c)) := by
  unfold gatherumref01_In.f
  by_cases h : b ≤ a <;> simp [h]
set_option maxHeartbeats 4000000 in
/-- A near rectangle that is none empty is brought to one that is none. -/
theorem bx_full (x0 y0 x1 y1 t ax ay : Int) (hn : nearP x0 y0 x1 y1 t ax ay) (hx : x0 < x1) (hy : y0 < y1) : (bxm t ax ay x0 y0 x1 y1).1 < (bxm t ax ay x0 y0 x1 y1).2.2.1 ∧ (bxm t ax ay x0 y0 x1 y1).2.1 < (bxm t ax ay x0 y0 x1 y1).2.2.2 := by
  obtain ⟨⟨h1, h2⟩, ⟨h3, h4⟩, ⟨h5, h6⟩, ⟨h7, h8⟩, ⟨h9, h10⟩, ⟨h11, h12⟩, h13⟩ := hn
  rcases eightv t h13 with rfl | rfl | rfl | rfl | rfl | rfl | rfl | rfl
  all_goals
    simp only [bxm, D, Int.reduceMod, Int.reduceNeg, Int.reduceLT, Int.reduceEq, if_true, if_false]
    simp (disch := omega) only [wS]
    omega
set_option maxHeartbeats 4000000 in
/-- What is brought apart is apart. -/
theorem bx_apart (x0 y0 x1 y1 t ax ay p q r s p' q' r' s' a b c d a' b' c' d' : Int) (hn : nearP x0 y0 x1 y1 t ax ay) (h : bxm t ax ay p q r s = (a, b, c, d)) (h' : bxm t ax ay p' q' r' s' = (a', b', c', d'))
    (k1 : x0 ≤ p) (k2 : r ≤ x1) (k3 : y0 ≤ q) (k4 : s ≤ y1) (k5 : p < r) (k6 : q < s) (k1' : x0 ≤ p') (k2' : r' ≤ x1) (k3' : y0 ≤ q') (k4' : s' ≤ y1) (k5' : p' < r') (k6' : q' < s') (ha : c ≤ a' ∨ d ≤ b') :
    emp (max p p') (max q q') (min r r') (min s s') := by
  obtain ⟨⟨h1, h2⟩, ⟨h3, h4⟩, ⟨h5, h6⟩, ⟨h7, h8⟩, ⟨h9, h10⟩, ⟨h11, h12⟩, h13⟩ := hn
  unfold emp
  rcases eightv t h13 with rfl | rfl | rfl | rfl | rfl | rfl | rfl | rfl
  all_goals
    simp only [bxm, D, Int.reduceMod, Int.reduceNeg, Int.reduceLT, Int.reduceEq, if_true, if_false, Prod.mk.injEq] at h h'
    simp (disch := omega) only [wS] at h h'
    omega
theorem alive : gatherumlaw42_alive.f 50 = some true := by decide +kernel
theorem near_eq (x0 y0 x1 y1 t ax ay : Int) : gatherumlaw42_near.f x0 y0 x1 y1 t ax ay = some (decide (nearP x0 y0 x1 y1 t ax ay)) := by
  simp only [gatherumlaw42_near.f, qInR, Option.bind_some, nearP]
  by_cases h1 : -1099511627776 ≤ x0 ∧ x0 ≤ 1099511627776 <;> by_cases h2 : -1099511627776 ≤ y0 ∧ y0 ≤ 1099511627776 <;> by_cases h3 : -1099511627776 ≤ x1 ∧ x1 ≤ 1099511627776 <;>
    by_cases h4 : -1099511627776 ≤ y1 ∧ y1 ≤ 1099511627776 <;> by_cases h5 : -1099511627776 ≤ ax ∧ ax ≤ 1099511627776 <;> by_cases h6 : -1099511627776 ≤ ay ∧ ay ≤ 1099511627776 <;> simp [h1, h2, h3, h4, h5, h6]
set_option maxHeartbeats 4000000 in
/-- A rectangle brought by a place and then shifted. -/
theorem bx_shift (t ax ay p q r s a b c d u v : Int) (h : bxm t ax ay p q r s = (a, b, c, d)) (hb : (-1000000000000 ≤ a ∧ a ≤ 1000000000000) ∧ (-1000000000000 ≤ b ∧ b ≤ 1000000000000) ∧ (-1000000000000 ≤ c ∧ c ≤ 1000000000000) ∧ (-1000000000000 ≤ d ∧ d ≤ 1000000000000)) (hu : -1000000000000 ≤ u ∧ u ≤ 1000000000000) (hv : -1000000000000 ≤ v ∧ v ≤ 1000000000000) :
    bxm t (wrap64 (ax + u)) (wrap64 (ay + v)) p q r s = (a + u, b + v, c + u, d + v) := by
  unfold bxm at *
  generalize (D t p q).1 = X at *
  generalize (D t p q).2 = Y at *
  generalize (D t r s).1 = X' at *
  generalize (D t r s).2 = Y' at *
  simp only [Prod.mk.injEq] at h ⊢
  have e (Z a u : Int) : wrap64 (Z + wrap64 (a + u)) = wrap64 (wrap64 (Z + a) + u) := by unfold wrap64; omega
  simp only [e]
  generalize wrap64 (X + ax) = X at *
  generalize wrap64 (Y + ay) = Y at *
  generalize wrap64 (X' + ax) = X' at *
  generalize wrap64 (Y' + ay) = Y' at *
  obtain ⟨ha, hb', hc, hd⟩ := h
  rw [wS (x := X + u) (by omega), wS (x := Y + v) (by omega), wS (x := X' + u) (by omega), wS (x := Y' + v) (by omega)]
  omega
theorem bxm_mod (t ax ay p q r s : Int) : bxm (t % 8) ax ay p q r s = bxm t ax ay p q r s := by unfold bxm; rw [← D_red, ← D_red]
theorem TrimWhole (a0_0 : ByteArray) (a0_1 : Int) (a0_2 : Int) (a0_3 : Int) (a0_4 : Int) (a0_5 : Int) (a0_6 : Int) (a0_7 : Int) (a0_8 : Int) (a0_9 : Int) (a0_10 : Int) (a0_11 : Int) (a0_12 : Int) (a0_13 : Int) (a0_14 : Ov) (a0_15 : Ov) (a0_16 : Int) (a0_17 : Int) (a0_18 : Int) (a0_19 : Int) (a0_20 : Int) (a0_21 : Int) (a0_22 : Int) (a0_23 : Int) (a0_24 : Int) (a0_25 : Int) (a0_26 : Int) (a0_27 : Int) (a0_28 : Int) (a0_29 : Int) (a0_30 : Int) (a0_31 : Int) (a0_32 : Int) (a1_0 : Int) (a1_1 : Int) (a1_2 : Int) (a1_3 : Int) (a1_4 : Int) (a1_5 : Int) (a1_6 : Int) (w0_0 : a0_0.size ≤ maxLen) (w0_1 : (Lit.int .i64 a0_1).wf = true) (w0_2 : (Lit.int .i64 a0_2).wf = true) (w0_3 : (Lit.int .i64 a0_3).wf = true) (w0_4 : (Lit.int .i64 a0_4).wf = true) (w0_5 : (Lit.int .i64 a0_5).wf = true) (w0_6 : (Lit.int .i64 a0_6).wf = true) (w0_7 : (Lit.int .i64 a0_7).wf = true) (w0_8 : (Lit.int .i64 a0_8).wf = true) (w0_9 : (Lit.int .i64 a0_9).wf = true) (w0_10 : (Lit.int .i64 a0_10).wf = true) (w0_11 : (Lit.int .i64 a0_11).wf = true) (w0_12 : (Lit.int .i64 a0_12).wf = true) (w0_13 : (Lit.int .i64 a0_13).wf = true) (w0_16 : (Lit.int .i64 a0_16).wf = true) (w0_17 : (Lit.int .i64 a0_17).wf = true) (w0_18 : (Lit.int .i64 a0_18).wf = true) (w0_19 : (Lit.int .i64 a0_19).wf = true) (w0_20 : (Lit.int .i64 a0_20).wf = true) (w0_21 : (Lit.int .i64 a0_21).wf = true) (w0_22 : (Lit.int .i64 a0_22).wf = true) (w0_23 : (Lit.int .i64 a0_23).wf = true) (w0_24 : (Lit.int .i64 a0_24).wf = true) (w0_25 : (Lit.int .i64 a0_25).wf = true) (w0_26 : (Lit.int .i64 a0_26).wf = true) (w0_27 : (Lit.int .i64 a0_27).wf = true) (w0_28 : (Lit.int .i64 a0_28).wf = true) (w0_29 : (Lit.int .i64 a0_29).wf = true) (w0_30 : (Lit.int .i64 a0_30).wf = true) (w0_31 : (Lit.int .i64 a0_31).wf = true) (w0_32 : (Lit.int .i64 a0_32).wf = true) (w1_0 : (Lit.int .i64 a1_0).wf = true) (w1_1 : (Lit.int .i64 a1_1).wf = true) (w1_2 : (Lit.int .i64 a1_2).wf = true) (w1_3 : (Lit.int .i64 a1_3).wf = true) (w1_4 : (Lit.int .i64 a1_4).wf = true) (w1_5 : (Lit.int .i64 a1_5).wf = true) (w1_6 : (Lit.int .i64 a1_6).wf = true) : ∃ K : Nat, gatherumlaw42_TrimWhole.f K a0_0 a0_1 a0_2 a0_3 a0_4 a0_5 a0_6 a0_7 a0_8 a0_9 a0_10 a0_11 a0_12 a0_13 a0_14 a0_15 a0_16 a0_17 a0_18 a0_19 a0_20 a0_21 a0_22 a0_23 a0_24 a0_25 a0_26 a0_27 a0_28 a0_29 a0_30 a0_31 a0_32 a1_0 a1_1 a1_2 a1_3 a1_4 a1_5 a1_6 = some true := by
  refine ⟨50, ?_⟩
  unfold gatherumlaw42_TrimWhole.f
  simp only [alive, Option.bind_some, Bool.not_true, Bool.false_eq_true, if_false, q20Size, near_eq]
  by_cases hn : nearP a1_0 a1_1 a1_2 a1_3 a1_4 a1_5 a1_6
  · rw [if_neg (by simpa using hn)]
    rcases q15First 0 a0_0 a0_1 a0_2 a0_3 a0_4 a0_5 a0_6 a0_7 a0_8 a0_9 a0_10 a0_11 a0_12 a0_13 a0_14 a0_15 a0_16 a0_17 a0_18 a0_19 a0_20 a0_21 a0_22 a0_23 a0_24 a0_25 a0_26 a0_27 a0_28 a0_29 a0_30 a0_31 a0_32 with ⟨v, hv, hv0⟩ | ⟨hv, hb⟩
    · rw [hv, Option.bind_some, if_pos (by simpa using hv0)]
    · rw [hv, Option.bind_some, if_neg (by simp), q04_Empty, Option.bind_some]
      by_cases he : emp a1_0 a1_1 a1_2 a1_3
      · rw [if_pos (by simpa using he)]
      · rw [if_neg (by simpa using he)]
        have ht := hn.2.2.2.2.2.2
        rw [if_neg (by simp; omega), if_neg (by simp; omega)]
        have x0 := R_of w1_0
        have y0 := R_of w1_1
        have x1 := R_of w1_2
        have y1 := R_of w1_3
        have ax := R_of w1_5
        have ay := R_of w1_6
        simp only [gatherumref38_Lies.f, q04_Box 0 _ _ _ _ _ _ _ x0 y0 x1 y1, Option.bind_some, gatherumref04_Of.f, trim_Cut.f, trim_Window.f, panel_Trim.f, box_Of.f, if_true, layer_Keep.f, layer_Lies.f, qPlaceBox 0 _ _ _ _ _ _ _ x0 y0 x1 y1, qbMeet, qbEmpty, place_Move.f]
        obtain ⟨-, -, -, b4, b5, b6, b7, b8, b9, b10, -⟩ := hb
        have e1 : wrap64 (a0_10 + a0_4) = a0_10 + a0_4 := wrap_id (by omega) (by omega)
        have e2 : wrap64 (a0_10 + a0_4 + a0_9) = a0_10 + a0_4 + a0_9 := wrap_id (by omega) (by omega)
        have e4 : wrap64 (a0_8 + a0_5) = a0_8 + a0_5 := wrap_id (by omega) (by omega)
        have e5 : wrap64 (a0_8 + a0_5 + a0_7) = a0_8 + a0_5 + a0_7 := wrap_id (by omega) (by omega)
        have e6 : wrap64 (0 + a0_4) = a0_4 := by rw [Int.zero_add]; exact R_id (R_of w0_4)
        have e7 : wrap64 (0 + a0_5) = a0_5 := by rw [Int.zero_add]; exact R_id (R_of w0_5)
        have e8 : wrap64 (0 - a0_10) = -a0_10 := by rw [Int.zero_sub]; exact wrap_id (by omega) (by omega)
        have e9 : wrap64 (0 - a0_8) = -a0_8 := by rw [Int.zero_sub]; exact wrap_id (by omega) (by omega)
        have e10 : wrap64 (0 + (a0_10 + a0_4 + a0_9)) = a0_10 + a0_4 + a0_9 := by rw [Int.zero_add]; exact e2
        have e11 : wrap64 (0 + (a0_8 + a0_5 + a0_7)) = a0_8 + a0_5 + a0_7 := by rw [Int.zero_add]; exact e5
        simp only [psz, e1, e2, e4, e5, e6, e7, e8, e9, e10, e11]
        have hK := bx_back a1_0 a1_1 a1_2 a1_3 a1_4 a1_5 a1_6 a0_10 a0_8 (a0_10 + a0_4) (a0_8 + a0_5) hn
        generalize hLe : bxm a1_4 a1_5 a1_6 a1_0 a1_1 a1_2 a1_3 = L at *
        obtain ⟨l0, l1, l2, l3⟩ := L
        by_cases hL : l0 = 0 ∧ l1 = 0 ∧ l2 = a0_10 + a0_4 + a0_9 ∧ l3 = a0_8 + a0_5 + a0_7
        · obtain ⟨rfl, rfl, rfl, rfl⟩ := hL
          have he' := he
          unfold emp at he'
          obtain ⟨p, q, r, s, g1, g2, k1, k2, k3, k4, k5, k6⟩ := hK (by omega) (by omega) (by omega) (by omega) (by simp only; omega) (by simp only; omega) (by simp only; omega) (by simp only; omega)
          have hm : mt 0 0 (a0_10 + a0_4 + a0_9) (a0_8 + a0_5 + a0_7) a0_10 a0_8 (a0_10 + a0_4) (a0_8 + a0_5) = (a0_10, a0_8, a0_10 + a0_4, a0_8 + a0_5) := by
            unfold mt
            rw [show max 0 a0_10 = a0_10 by omega, show max 0 a0_8 = a0_8 by omega, show min (a0_10 + a0_4 + a0_9) (a0_10 + a0_4) = a0_10 + a0_4 by omega, show min (a0_8 + a0_5 + a0_7) (a0_8 + a0_5) = a0_8 + a0_5 by omega, if_neg (by unfold emp; omega)]
          have hne : ¬ emp a0_10 a0_8 (a0_10 + a0_4) (a0_8 + a0_5) := by unfold emp; omega
          have m0 : R a0_10 := R_of w0_10
          have m1 : R a0_8 := R_of w0_8
          have m2 : R (a0_10 + a0_4) := by unfold R; omega
          have m3 : R (a0_8 + a0_5) := by unfold R; omega
          obtain ⟨rp, rq, rr, rs⟩ := bxm_R (bk a1_4) (wrap64 (-(D (bk a1_4) a1_5 a1_6).1)) (wrap64 (-(D (bk a1_4) a1_5 a1_6).2)) a0_10 a0_8 (a0_10 + a0_4) (a0_8 + a0_5)
          rw [g1] at rp rq rr rs
          have hsh := bx_shift a1_4 a1_5 a1_6 p q r s _ _ _ _ (-a0_10) (-a0_8) g2 (by omega) (by omega) (by omega)
          have d1 : wrap64 ((D 0 a1_5 a1_6).1 + -a0_10) = wrap64 (a1_5 + -a0_10) := by rw [D_zero]
          have d2 : wrap64 ((D 0 a1_5 a1_6).2 + -a0_8) = wrap64 (a1_6 + -a0_8) := by rw [D_zero]
          simp only [beq_self_eq_true, Bool.and_self, Bool.not_true, Bool.false_eq_true, if_false, hm, he, hne, decide_false, layer_part.f, qPlaceBack 0 _ _ _ ax ay, Option.bind_some, qPlaceBox 0 _ _ _ _ _ _ _ m0 m1 m2 m3, g1, layer_Lay.f, qPlaceThen 0 _ _ _ _ _ _ ax ay, if_true, d1, d2, (th_back a1_4).2.2.2, q04_Box 0 _ _ _ p q r s rp rq rr rs, bxm_mod, hsh]
          simp
          omega
        · rw [if_pos (by simp; omega)]
  · rw [if_pos (by simpa using hn)]
end Go.Proofs.Ythgmjhidigoneaa.PureTrimWhole
