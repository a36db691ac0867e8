/- The plain law PanelTurns, over the functions that the executor tells: no Go, no memory. -/
import Derived.Test.YthgmjhidigoneaaXPanelTurns
import Derived.Test.YthgmjhidigoneaaAid
namespace Go.Proofs.Ythgmjhidigoneaa.PurePanelTurns
open Go Go.RowKit Go.Proofs.Ythgmjhidigoneaa.Sy Go.Proofs.Ythgmjhidigoneaa.XPanelTurns Go.Proofs.Ythgmjhidigoneaa.Aid
set_option linter.unusedVariables false
set_option linter.unusedSimpArgs false

set_option maxRecDepth 100000
/-! ### words of the plain laws -/
def emp (a b c d : Int) : Prop := c ≤ a ∨ d ≤ b
instance (a b c d : Int) : Decidable (emp a b c d) := by unfold emp; infer_instance
/-- A rectangle, brought by a place. -/
def bxm (t ax ay a b c d : Int) : Int × Int × Int × Int :=
  (min (wrap64 ((D t a b).1 + ax)) (wrap64 ((D t c d).1 + ax)), min (wrap64 ((D t a b).2 + ay)) (wrap64 ((D t c d).2 + ay)), max (wrap64 ((D t a b).1 + ax)) (wrap64 ((D t c d).1 + ax)), max (wrap64 ((D t a b).2 + ay)) (wrap64 ((D t c d).2 + ay)))
/-- How many plates a sheet has; how it is turned over; where may be printed; where a block may be. -/
def plt (s : Int) : Int := if s = 1 ∨ s = 2 then 2 else if s = 3 ∨ s = 4 then 1 else 0
def flp (s w h : Int) : Int × Int × Int := if plt s = 0 then (0, 0, 0) else if s = 2 ∨ s = 4 then (6, 0, h) else (4, w, 0)
def are (s w h side g t : Int) : Int × Int × Int × Int := if plt s = 0 then (0, 0, 0, 0) else if s = 2 ∨ s = 4 then (side, max g t, wrap64 (w - side), wrap64 (h - max g t)) else (side, g, wrap64 (w - side), wrap64 (h - t))
def reg (s w h : Int) (a : Int × Int × Int × Int) : Int × Int × Int × Int := if s = 3 then (a.1, a.2.1, min a.2.2.1 (w / 2), a.2.2.2) else if s = 4 then (a.1, a.2.1, a.2.2.1, min a.2.2.2 (h / 2)) else a
theorem plt_zero (s : Int) : plt s = 0 ↔ s < 1 ∨ s > 4 := by
  unfold plt
  by_cases h1 : s = 1 ∨ s = 2
  · rw [if_pos h1]; omega
  · rw [if_neg h1]; by_cases h2 : s = 3 ∨ s = 4
    · rw [if_pos h2]; omega
    · rw [if_neg h2]; omega
theorem min_R {a b : Int} (ha : R a) (hb : R b) : R (min a b) := by unfold R at *; omega
theorem max_R {a b : Int} (ha : R a) (hb : R b) : R (max a b) := by unfold R at *; omega
theorem are_R {s w h side g t : Int} (h1 : R side) (h2 : R g) (h3 : R t) : R (are s w h side g t).1 ∧ R (are s w h side g t).2.1 ∧ R (are s w h side g t).2.2.1 ∧ R (are s w h side g t).2.2.2 := by
  unfold are
  have h0 : R 0 := by unfold R; omega
  split
  · exact ⟨h0, h0, h0, h0⟩
  · split
    · exact ⟨h1, max_R h2 h3, R_wrap _, R_wrap _⟩
    · exact ⟨h1, h2, R_wrap _, R_wrap _⟩
theorem mni_eq (a b : Int) : mni a b = min a b := by unfold mni; split <;> omega
theorem mxi_eq (a b : Int) : mxi a b = max a b := by unfold mxi; split <;> omega
/-- A panel's size. -/
def psz (a b c x y z : Int) : Int × Int := (wrap64 (wrap64 (c + a) + b), wrap64 (wrap64 (z + x) + y))
theorem q03_Do (t x y : Int) (hx : R x) (hy : R y) : gatherumref03_Do.f (M t).1 (M t).2.1 (M t).2.2.1 (M t).2.2.2 x y = some (D t x y) := by
  have h1 : wrap64 x = x := R_id hx
  have h2 : wrap64 y = y := R_id hy
  rcases eight t with h | h | h | h | h | h | h | h <;>
    simp [gatherumref03_Do.f, M, D, h, wl0, h1, h2, wrap_wrap, wnn hx, wnn hy]
theorem tm4 (x : Int) (h : 0 ≤ x) : Int.tmod x 4 = x % 4 := Int.tmod_eq_emod_of_nonneg h
theorem q03_Of (K : Nat) (t : Int) : gatherumref03_Of.f (K + 50) t = some (M t) := by
  rcases eight t with h | h | h | h | h | h | h | h <;>
    simp [gatherumref03_Of.f, and7, h, gatherumref03_Of.l0, gatherumref03_Of.l1, M, wl0, wl1, wl2, wl3, wm1, tm4]
theorem q04_Do (K : Nat) (t ax ay x y : Int) (hx : R x) (hy : R y) : gatherumref04_Do.f (K + 50) t ax ay x y = some (wrap64 ((D t x y).1 + ax), wrap64 ((D t x y).2 + ay)) := by
  simp only [gatherumref04_Do.f, q03_Of K t, Option.bind_some, q03_Do t x y hx hy]
theorem q04_low (a b : Int) : gatherumref04_low.f a b = some (min a b) := by
  unfold gatherumref04_low.f
  by_cases h : a < b
  · rw [if_pos (by simpa using h)]; congr 1; omega
  · rw [if_neg (by simpa using h)]; congr 1; omega
theorem q04_high (a b : Int) : gatherumref04_high.f a b = some (max a b) := by
  unfold gatherumref04_high.f
  by_cases h : b < a
  · rw [if_pos (by simpa using h)]; congr 1; omega
  · rw [if_neg (by simpa using h)]; congr 1; omega
theorem q04_Box (K : Nat) (t ax ay a b c d : Int) (ha : R a) (hb : R b) (hc : R c) (hd : R d) : gatherumref04_Box.f (K + 50) t ax ay a b c d = some (bxm t ax ay a b c d) := by
  simp only [gatherumref04_Box.f, q04_Do K _ _ _ _ _ ha hb, q04_Do K _ _ _ _ _ hc hd, Option.bind_some, q04_low, q04_high, bxm]
theorem qSize (j0 : ByteArray) (j1 j2 j3 j4 j5 j6 j7 j8 j9 j10 j11 j12 j13 : Int) (j14 j15 : Ov) (j16 j17 j18 j19 j20 j21 j22 j23 j24 j25 j26 j27 j28 j29 j30 j31 j32 : Int) : panel_Size.f j0 j1 j2 j3 j4 j5 j6 j7 j8 j9 j10 j11 j12 j13 j14 j15 j16 j17 j18 j19 j20 j21 j22 j23 j24 j25 j26 j27 j28 j29 j30 j31 j32 = some (psz j4 j9 j10 j5 j7 j8) := rfl
/-- How many panels there are. -/
def pan (c r : Int) : Int := if (1 ≤ c ∧ c ≤ 64) ∧ (1 ≤ r ∧ r ≤ 64) then c * r else 0
theorem qIn (a b c : Int) : num_In.f a b c = some (decide (b ≤ a ∧ a ≤ c)) := by
  unfold num_In.f
  by_cases h : b ≤ a <;> simp [h]
theorem qPanels (c r : Int) (o : Ov) : scheme_Panels.f c r o = some (pan c r) := by
  unfold scheme_Panels.f pan
  simp only [qIn, Option.bind_some]
  by_cases h : 1 ≤ c ∧ c ≤ 64
  · by_cases h' : 1 ≤ r ∧ r ≤ 64
    · have : 0 ≤ c * r := Int.mul_nonneg (by omega) (by omega)
      have : c * r ≤ 64 * 64 := Int.mul_le_mul h.2 h'.2 (by omega) (by omega)
      simp only [h, h', and_self, decide_true, Bool.not_true, Bool.false_eq_true, if_false, if_true]
      rw [wrap_id (by omega) (by omega)]
    · simp [h, h']
  · simp [h]
theorem pan_bounds (c r : Int) : 0 ≤ pan c r ∧ pan c r ≤ 4096 := by
  unfold pan; split
  · rename_i h
    have : 0 ≤ c * r := Int.mul_nonneg (by omega) (by omega)
    have : c * r ≤ 64 * 64 := Int.mul_le_mul h.1.2 h.2.2 (by omega) (by omega)
    omega
  · omega
theorem pan_pos {c r : Int} (h : 0 < pan c r) : (1 ≤ c ∧ c ≤ 64) ∧ (1 ≤ r ∧ r ≤ 64) := by
  unfold pan at h; split at h
  · assumption
  · omega
/-- Where a panel begins. -/
def bxo (w h c r cp n : Int) : Int × Int := (wrap64 (Int.tmod n c * w), wrap64 (wrap64 (wrap64 (cp * r) + wrap64 (Int.tdiv n c)) * h))
/-- Is there such a panel, in such a copy? -/
def hasP (c r cp n : Int) : Prop := (0 ≤ n ∧ n < pan c r) ∧ (0 ≤ cp ∧ cp ≤ 1)
instance (c r cp n : Int) : Decidable (hasP c r cp n) := by unfold hasP; infer_instance
theorem hasP_ne {c r cp n : Int} (h : hasP c r cp n) : c ≠ 0 := by
  have := (pan_pos (show 0 < pan c r by have := h.1; omega)).1; omega
theorem qBox (j0 : ByteArray) (j1 j2 j3 j4 j5 j6 j7 j8 j9 j10 j11 j12 j13 : Int) (j14 j15 : Ov) (j16 j17 j18 j19 j20 j21 j22 j23 j24 j25 j26 j27 j28 j29 j30 j31 j32 : Int) (c r : Int) (o : Ov) (cp n : Int) : panel_Box.f j0 j1 j2 j3 j4 j5 j6 j7 j8 j9 j10 j11 j12 j13 j14 j15 j16 j17 j18 j19 j20 j21 j22 j23 j24 j25 j26 j27 j28 j29 j30 j31 j32 c r o cp n = some (if hasP c r cp n then ((bxo (psz j4 j9 j10 j5 j7 j8).1 (psz j4 j9 j10 j5 j7 j8).2 c r cp n).1, (bxo (psz j4 j9 j10 j5 j7 j8).1 (psz j4 j9 j10 j5 j7 j8).2 c r cp n).2, wrap64 ((bxo (psz j4 j9 j10 j5 j7 j8).1 (psz j4 j9 j10 j5 j7 j8).2 c r cp n).1 + (psz j4 j9 j10 j5 j7 j8).1), wrap64 ((bxo (psz j4 j9 j10 j5 j7 j8).1 (psz j4 j9 j10 j5 j7 j8).2 c r cp n).2 + (psz j4 j9 j10 j5 j7 j8).2)) else (0, 0, 0, 0)) := by
  have hb := pan_bounds c r
  unfold panel_Box.f
  simp only [qPanels, qIn, qSize, Option.bind_some, box_Of.f]
  rw [wrap_id (n := pan c r - 1) (by omega) (by omega)]
  by_cases h1 : 0 ≤ n ∧ n ≤ pan c r - 1
  · by_cases h2 : 0 ≤ cp ∧ cp ≤ 1
    · have hh : hasP c r cp n := ⟨by omega, h2⟩
      rw [if_pos hh, if_neg (by simpa using h1), if_neg (by simpa using h2), if_neg (by simpa using hasP_ne hh)]
      rfl
    · rw [if_neg (show ¬ hasP c r cp n from fun h => h2 h.2), if_neg (by simpa using h1), if_pos (by simp; omega)]
  · rw [if_neg (show ¬ hasP c r cp n from fun h => h1 (by have := h.1; omega)), if_pos (by simp; omega)]
theorem qTurnDo (K : Nat) (t x y : Int) (hx : R x) (hy : R y) : turn_Do.f (K + 50) t x y = some (D t x y) := by
  have h4 : t % 4 = t % 8 % 4 := by omega
  rcases eight t with h | h | h | h | h | h | h | h <;> rw [h] at h4 <;>
    simp [turn_Do.f, turn_Mirrors.f, and4, and3, h, h4, turn_Do.l0, turn_Do.l1, D, wl1, wl2, wl3, wnn hx, wnn hy]
theorem qPlaceDo (K : Nat) (t ax ay x y : Int) (hx : R x) (hy : R y) : place_Do.f (K + 50) t ax ay x y = some (wrap64 ((D t x y).1 + ax), wrap64 ((D t x y).2 + ay)) := by
  simp only [place_Do.f, qTurnDo K _ _ _ hx hy, Option.bind_some]
theorem qTurnThen (a b : Int) : turn_Then.f a b = some (th a b) := by
  unfold turn_Then.f turn_Mirrors.f th
  simp only [Option.bind_some, xor4, and3, wrap_m4, or34 _ _ (c04 _)]
  simp only [and4]
  by_cases h : b % 8 < 4 <;> simp [h]
theorem qPlaceThen (K : Nat) (t x y t' x' y' : Int) (hx : R x) (hy : R y) : place_Then.f (K + 50) t x y t' x' y' = some (th t t', wrap64 ((D t' x y).1 + x'), wrap64 ((D t' x y).2 + y')) := by
  simp only [place_Then.f, qPlaceDo K _ _ _ _ _ hx hy, qTurnThen, Option.bind_some]
/-- How the leaf comes to lie. -/
def lis (w h X Y : Int) (fx fy : Bool) : Int × Int × Int :=
  if fx then (if fy then (2, wrap64 (X + w), wrap64 (Y + h)) else (4, wrap64 (X + w), wrap64 (-Y))) else (if fy then (6, wrap64 (-X), wrap64 (Y + h)) else (0, wrap64 (-X), wrap64 (-Y)))
theorem qLies (K : Nat) (j0 : ByteArray) (j1 j2 j3 j4 j5 j6 j7 j8 j9 j10 j11 j12 j13 : Int) (j14 j15 : Ov) (j16 j17 j18 j19 j20 j21 j22 j23 j24 j25 j26 j27 j28 j29 j30 j31 j32 : Int) (c r : Int) (o : Ov) (cp n p0 : Int) (fx fy : Bool) : panel_Lies.f (K + 50) j0 j1 j2 j3 j4 j5 j6 j7 j8 j9 j10 j11 j12 j13 j14 j15 j16 j17 j18 j19 j20 j21 j22 j23 j24 j25 j26 j27 j28 j29 j30 j31 j32 c r o cp n p0 fx fy = some (if hasP c r cp n then lis (psz j4 j9 j10 j5 j7 j8).1 (psz j4 j9 j10 j5 j7 j8).2 (bxo (psz j4 j9 j10 j5 j7 j8).1 (psz j4 j9 j10 j5 j7 j8).2 c r cp n).1 (bxo (psz j4 j9 j10 j5 j7 j8).1 (psz j4 j9 j10 j5 j7 j8).2 c r cp n).2 fx fy else (0, 0, 0)) := by
  have hb := pan_bounds c r
  unfold panel_Lies.f
  simp only [qPanels, qIn, qSize, qBox, Option.bind_some, place_Move.f, place_FlipX.f, place_FlipY.f]
  rw [wrap_id (n := pan c r - 1) (by omega) (by omega)]
  by_cases h1 : 0 ≤ n ∧ n ≤ pan c r - 1
  · by_cases h2 : 0 ≤ cp ∧ cp ≤ 1
    · have hh : hasP c r cp n := ⟨by omega, h2⟩
      rw [if_pos hh, if_pos hh, if_neg (by simpa using h1), if_neg (by simpa using h2)]
      simp only [qPlaceThen K _ _ _ _ _ _ (R_wrap _) (R_wrap _), Option.bind_some]
      have hX : R (bxo (psz j4 j9 j10 j5 j7 j8).1 (psz j4 j9 j10 j5 j7 j8).2 c r cp n).1 := R_wrap _
      have hY : R (bxo (psz j4 j9 j10 j5 j7 j8).1 (psz j4 j9 j10 j5 j7 j8).2 c r cp n).2 := R_wrap _
      have hw : R (psz j4 j9 j10 j5 j7 j8).1 := R_wrap _
      have hy : R (psz j4 j9 j10 j5 j7 j8).2 := R_wrap _
      generalize (bxo (psz j4 j9 j10 j5 j7 j8).1 (psz j4 j9 j10 j5 j7 j8).2 c r cp n).1 = X at *
      generalize (bxo (psz j4 j9 j10 j5 j7 j8).1 (psz j4 j9 j10 j5 j7 j8).2 c r cp n).2 = Y at *
      generalize (psz j4 j9 j10 j5 j7 j8).1 = w at *
      generalize (psz j4 j9 j10 j5 j7 j8).2 = h at *
      unfold R at *
      cases fx <;> cases fy <;> simp [lis, th, D] <;> unfold wrap64 <;> omega
    · simp only [if_neg (show ¬ hasP c r cp n from fun h => h2 h.2)]; rw [if_neg (by simpa using h1), if_pos (by simp; omega)]
  · simp only [if_neg (show ¬ hasP c r cp n from fun h => h1 (by have := h.1; omega))]; rw [if_pos (by simp; omega)]
theorem q04_Empty (a b c d : Int) : gatherumref04_Empty.f a b c d = some (decide (emp a b c d)) := by
  unfold gatherumref04_Empty.f emp
  by_cases h : c ≤ a <;> simp [h]
theorem first_loop (A F T : List Int) (n : Nat) (hA : A.length = n) (hF : F.length = n) (hT : T.length = n) (hn : n < 1000000) :
    ∀ (d k i : Nat), i + d = n → d < k → (∃ v, gatherumref15_First.l0 A F T k i = some v ∧ 0 ≤ v) ∨ (gatherumref15_First.l0 A F T k i = some (-1) ∧ ∀ j, i ≤ j → j < n → ∀ a f t, A[j]? = some a → F[j]? = some f → T[j]? = some t → f ≤ a ∧ a ≤ t) := by
  intro d
  induction d with
  | zero =>
    intro k i hi hk
    obtain ⟨k, rfl⟩ : ∃ m, k = m + 1 := ⟨k - 1, by omega⟩
    refine Or.inr ⟨?_, fun j h1 h2 => by omega⟩
    rw [gatherumref15_First.l0, if_neg (by simp; omega)]
  | succ d ih =>
    intro k i hi hk
    obtain ⟨k, rfl⟩ : ∃ m, k = m + 1 := ⟨k - 1, by omega⟩
    rw [gatherumref15_First.l0]
    have hAi : A[i]? = some A[i] := List.getElem?_eq_getElem (by omega)
    have hFi : F[i]? = some F[i] := List.getElem?_eq_getElem (by omega)
    have hTi : T[i]? = some T[i] := List.getElem?_eq_getElem (by omega)
    have g1 : (decide ((i : Int) < ((A.length : Nat) : Int))) = true := by simp; omega
    have g2 : (decide ((i : Int) < ((F.length : Nat) : Int))) = true := by simp; omega
    have g3 : (decide ((i : Int) < ((T.length : Nat) : Int))) = true := by simp; omega
    have g4 : (decide ((0 : Int) ≤ (i : Int))) = true := by simp
    simp only [Int.toNat_natCast, hAi, hFi, hTi, Option.bind_some, g1, g2, g3, g4, if_true]
    by_cases h1 : A[i] < F[i]
    · rw [if_pos (by simpa using h1)]; exact Or.inl ⟨_, rfl, by omega⟩
    · rw [if_neg (by simpa using h1)]
      by_cases h2 : T[i] < A[i]
      · rw [if_pos (by simpa using h2)]; exact Or.inl ⟨_, rfl, by omega⟩
      · rw [if_neg (by simpa using h2), wrap_id (by omega) (by omega), show (i : Int) + 1 = ((i + 1 : Nat) : Int) by omega]
        rcases ih k (i + 1) (by omega) (by omega) with h | ⟨h, hh⟩
        · exact Or.inl h
        · refine Or.inr ⟨h, fun j hj1 hj2 a f t ha hf ht => ?_⟩
          rcases Nat.lt_or_ge i j with hlt | hge
          · exact hh j hlt hj2 a f t ha hf ht
          · obtain rfl : j = i := by omega
            rw [hAi] at ha; rw [hFi] at hf; rw [hTi] at ht
            cases ha; cases hf; cases ht
            omega
theorem q15First (K : Nat) (j0 : ByteArray) (j1 j2 j3 j4 j5 j6 j7 j8 j9 j10 j11 j12 j13 : Int) (j14 j15 : Ov) (j16 j17 j18 j19 j20 j21 j22 j23 j24 j25 j26 j27 j28 j29 j30 j31 j32 : Int) : (∃ v, gatherumref15_First.f (K + 50) j0 j1 j2 j3 j4 j5 j6 j7 j8 j9 j10 j11 j12 j13 j14 j15 j16 j17 j18 j19 j20 j21 j22 j23 j24 j25 j26 j27 j28 j29 j30 j31 j32 = some v ∧ 0 ≤ v) ∨ (gatherumref15_First.f (K + 50) j0 j1 j2 j3 j4 j5 j6 j7 j8 j9 j10 j11 j12 j13 j14 j15 j16 j17 j18 j19 j20 j21 j22 j23 j24 j25 j26 j27 j28 j29 j30 j31 j32 = some (-1) ∧ (1 ≤ j1 ∧ j1 ≤ 100000) ∧ (-5000000 ≤ j2 ∧ j2 ≤ 5000000) ∧ (-5000000 ≤ j3 ∧ j3 ≤ 5000000) ∧ (1 ≤ j4 ∧ j4 ≤ 5000000) ∧ (1 ≤ j5 ∧ j5 ≤ 5000000) ∧ (0 ≤ j6 ∧ j6 ≤ 5000000) ∧ (0 ≤ j7 ∧ j7 ≤ 5000000) ∧ (0 ≤ j8 ∧ j8 ≤ 5000000) ∧ (0 ≤ j9 ∧ j9 ≤ 5000000) ∧ (0 ≤ j10 ∧ j10 ≤ 5000000) ∧ (1 ≤ j11 ∧ j11 ≤ 4) ∧ (1 ≤ j16 ∧ j16 ≤ 4) ∧ (1 ≤ j17 ∧ j17 ≤ 5000000) ∧ (1 ≤ j18 ∧ j18 ≤ 5000000) ∧ (0 ≤ j19 ∧ j19 ≤ 5000000) ∧ (0 ≤ j20 ∧ j20 ≤ 5000000) ∧ (0 ≤ j21 ∧ j21 ≤ 5000000) ∧ (0 ≤ j22 ∧ j22 ≤ 100000) ∧ (0 ≤ j23 ∧ j23 ≤ 1000) ∧ (1 ≤ j24 ∧ j24 ≤ 1000) ∧ (0 ≤ j25 ∧ j25 ≤ 3) ∧ (0 ≤ j26 ∧ j26 ≤ 5000000) ∧ (0 ≤ j27 ∧ j27 ≤ 5000000) ∧ (0 ≤ j28 ∧ j28 ≤ 5000000) ∧ (0 ≤ j29 ∧ j29 ≤ 5000000) ∧ (0 ≤ j30 ∧ j30 ≤ 5000000) ∧ (1 ≤ j31 ∧ j31 ≤ 1000) ∧ (0 ≤ j32 ∧ j32 ≤ 5000000)) := by
  have h := first_loop [j1, j2, j3, j4, j5, j6, j7, j8, j9, j10, j11, j16, j17, j18, j19, j20, j21, j22, j23, j24, j25, j26, j27, j28, j29, j30, j31, j32] [1, -5000000, -5000000, 1, 1, 0, 0, 0, 0, 0, 1, 1, 1, 1, 0, 0, 0, 0, 0, 1, 0, 0, 0, 0, 0, 0, 1, 0] [100000, 5000000, 5000000, 5000000, 5000000, 5000000, 5000000, 5000000, 5000000, 5000000, 4, 4, 5000000, 5000000, 5000000, 5000000, 5000000, 100000, 1000, 1000, 3, 5000000, 5000000, 5000000, 5000000, 5000000, 1000, 5000000] 28 rfl rfl rfl (by omega) 28 (K + 50) 0 (by omega) (by omega)
  rcases h with h | ⟨h, hh⟩
  · exact Or.inl h
  · refine Or.inr ⟨h, hh 0 (by omega) (by omega) _ _ _ rfl rfl rfl, hh 1 (by omega) (by omega) _ _ _ rfl rfl rfl, hh 2 (by omega) (by omega) _ _ _ rfl rfl rfl, hh 3 (by omega) (by omega) _ _ _ rfl rfl rfl, hh 4 (by omega) (by omega) _ _ _ rfl rfl rfl, hh 5 (by omega) (by omega) _ _ _ rfl rfl rfl, hh 6 (by omega) (by omega) _ _ _ rfl rfl rfl, hh 7 (by omega) (by omega) _ _ _ rfl rfl rfl, hh 8 (by omega) (by omega) _ _ _ rfl rfl rfl, hh 9 (by omega) (by omega) _ _ _ rfl rfl rfl, hh 10 (by omega) (by omega) _ _ _ rfl rfl rfl, hh 11 (by omega) (by omega) _ _ _ rfl rfl rfl, hh 12 (by omega) (by omega) _ _ _ rfl rfl rfl, hh 13 (by omega) (by omega) _ _ _ rfl rfl rfl, hh 14 (by omega) (by omega) _ _ _ rfl rfl rfl, hh 15 (by omega) (by omega) _ _ _ rfl rfl rfl, hh 16 (by omega) (by omega) _ _ _ rfl rfl rfl, hh 17 (by omega) (by omega) _ _ _ rfl rfl rfl, hh 18 (by omega) (by omega) _ _ _ rfl rfl rfl, hh 19 (by omega) (by omega) _ _ _ rfl rfl rfl, hh 20 (by omega) (by omega) _ _ _ rfl rfl rfl, hh 21 (by omega) (by omega) _ _ _ rfl rfl rfl, hh 22 (by omega) (by omega) _ _ _ rfl rfl rfl, hh 23 (by omega) (by omega) _ _ _ rfl rfl rfl, hh 24 (by omega) (by omega) _ _ _ rfl rfl rfl, hh 25 (by omega) (by omega) _ _ _ rfl rfl rfl, hh 26 (by omega) (by omega) _ _ _ rfl rfl rfl, hh 27 (by omega) (by omega) _ _ _ rfl rfl rfl⟩
theorem alive : gatherumlaw20_alive.f 50 = some true := by decide +kernel
theorem PanelTurns (a0_0 : ByteArray) (a0_1 : Int) (a0_2 : Int) (a0_3 : Int) (a0_4 : Int) (a0_5 : Int) (a0_6 : Int) (a0_7 : Int) (a0_8 : Int) (a0_9 : Int) (a0_10 : Int) (a0_11 : Int) (a0_12 : Int) (a0_13 : Int) (a0_14 : Ov) (a0_15 : Ov) (a0_16 : Int) (a0_17 : Int) (a0_18 : Int) (a0_19 : Int) (a0_20 : Int) (a0_21 : Int) (a0_22 : Int) (a0_23 : Int) (a0_24 : Int) (a0_25 : Int) (a0_26 : Int) (a0_27 : Int) (a0_28 : Int) (a0_29 : Int) (a0_30 : Int) (a0_31 : Int) (a0_32 : Int) (w0_0 : a0_0.size ≤ maxLen) (w0_1 : (Lit.int .i64 a0_1).wf = true) (w0_2 : (Lit.int .i64 a0_2).wf = true) (w0_3 : (Lit.int .i64 a0_3).wf = true) (w0_4 : (Lit.int .i64 a0_4).wf = true) (w0_5 : (Lit.int .i64 a0_5).wf = true) (w0_6 : (Lit.int .i64 a0_6).wf = true) (w0_7 : (Lit.int .i64 a0_7).wf = true) (w0_8 : (Lit.int .i64 a0_8).wf = true) (w0_9 : (Lit.int .i64 a0_9).wf = true) (w0_10 : (Lit.int .i64 a0_10).wf = true) (w0_11 : (Lit.int .i64 a0_11).wf = true) (w0_12 : (Lit.int .i64 a0_12).wf = true) (w0_13 : (Lit.int .i64 a0_13).wf = true) (w0_16 : (Lit.int .i64 a0_16).wf = true) (w0_17 : (Lit.int .i64 a0_17).wf = true) (w0_18 : (Lit.int .i64 a0_18).wf = true) (w0_19 : (Lit.int .i64 a0_19).wf = true) (w0_20 : (Lit.int .i64 a0_20).wf = true) (w0_21 : (Lit.int .i64 a0_21).wf = true) (w0_22 : (Lit.int .i64 a0_22).wf = true) (w0_23 : (Lit.int .i64 a0_23).wf = true) (w0_24 : (Lit.int .i64 a0_24).wf = true) (w0_25 : (Lit.int .i64 a0_25).wf = true) (w0_26 : (Lit.int .i64 a0_26).wf = true) (w0_27 : (Lit.int .i64 a0_27).wf = true) (w0_28 : (Lit.int .i64 a0_28).wf = true) (w0_29 : (Lit.int .i64 a0_29).wf = true) (w0_30 : (Lit.int .i64 a0_30).wf = true) (w0_31 : (Lit.int .i64 a0_31).wf = true) (w0_32 : (Lit.int .i64 a0_32).wf = true) : ∃ K : Nat, gatherumlaw20_PanelTurns.f K a0_0 a0_1 a0_2 a0_3 a0_4 a0_5 a0_6 a0_7 a0_8 a0_9 a0_10 a0_11 a0_12 a0_13 a0_14 a0_15 a0_16 a0_17 a0_18 a0_19 a0_20 a0_21 a0_22 a0_23 a0_24 a0_25 a0_26 a0_27 a0_28 a0_29 a0_30 a0_31 a0_32 = some true := by
  refine ⟨50, ?_⟩
  unfold gatherumlaw20_PanelTurns.f
  simp only [alive, Option.bind_some, Bool.not_true, Bool.false_eq_true, if_false]
  rcases q15First 0 a0_0 a0_1 a0_2 a0_3 a0_4 a0_5 a0_6 a0_7 a0_8 a0_9 a0_10 a0_11 a0_12 a0_13 a0_14 a0_15 a0_16 a0_17 a0_18 a0_19 a0_20 a0_21 a0_22 a0_23 a0_24 a0_25 a0_26 a0_27 a0_28 a0_29 a0_30 a0_31 a0_32 with ⟨v, hv, hv0⟩ | ⟨hv, hb⟩
  · rw [hv, Option.bind_some, if_pos (by simpa using hv0)]
  · rw [hv, Option.bind_some, if_neg (by simp)]
    have r4 := R_of w0_4
    have r8 := R_of w0_8
    have r9 := R_of w0_9
    have r10 := R_of w0_10
    obtain ⟨-, -, -, b4, b5, b6, b7, b8, b9, b10, -⟩ := hb
    have e1 : wrap64 (a0_10 + a0_4) = a0_10 + a0_4 := wrap_id (by omega) (by omega)
    have e2 : wrap64 (a0_10 + a0_4 + a0_9) = a0_10 + a0_4 + a0_9 := wrap_id (by omega) (by omega)
    have e3 : wrap64 (a0_9 + a0_4) = a0_9 + a0_4 := wrap_id (by omega) (by omega)
    have e4 : wrap64 (a0_8 + a0_5) = a0_8 + a0_5 := wrap_id (by omega) (by omega)
    have e5 : wrap64 (a0_9 - a0_6) = a0_9 - a0_6 := wrap_id (by omega) (by omega)
    have e6 : wrap64 (a0_8 - a0_6) = a0_8 - a0_6 := wrap_id (by omega) (by omega)
    have e7 : wrap64 (a0_9 + a0_4 + 0) = a0_9 + a0_4 := by rw [Int.add_zero]; exact e3
    have e8 : wrap64 (a0_8 + a0_5 + a0_6) = a0_8 + a0_5 + a0_6 := wrap_id (by omega) (by omega)
    have e9 : wrap64 (a0_10 - 0) = a0_10 := by rw [Int.sub_zero]; exact R_id r10
    have e10 : wrap64 (a0_10 + a0_4 + a0_6) = a0_10 + a0_4 + a0_6 := wrap_id (by omega) (by omega)
    simp only [panel_Reader.f, qSize, psz, place_FlipX.f, panel_Trim.f, panel_Clip.f, box_Of.f, box_Grow.f, Bool.false_eq_true, if_false, if_true, Option.bind_some, e1, e2, e3, e4, e5, e6, e7, e8, e9, e10]
    rw [q04_Box 0 4 (a0_10 + a0_4 + a0_9) 0 a0_9 a0_8 (a0_9 + a0_4) (a0_8 + a0_5) r9 r8 (by unfold R; omega) (by unfold R; omega)]
    rw [q04_Box 0 4 (a0_10 + a0_4 + a0_9) 0 (a0_9 - a0_6) (a0_8 - a0_6) (a0_9 + a0_4) (a0_8 + a0_5 + a0_6) (by unfold R; omega) (by unfold R; omega) (by unfold R; omega) (by unfold R; omega)]
    have t1 : bxm 4 (a0_10 + a0_4 + a0_9) 0 a0_9 a0_8 (a0_9 + a0_4) (a0_8 + a0_5) = (a0_10, a0_8, a0_10 + a0_4, a0_8 + a0_5) := by
      simp [bxm, D]; unfold wrap64; omega
    have t2 : bxm 4 (a0_10 + a0_4 + a0_9) 0 (a0_9 - a0_6) (a0_8 - a0_6) (a0_9 + a0_4) (a0_8 + a0_5 + a0_6) = (a0_10, a0_8 - a0_6, a0_10 + a0_4 + a0_6, a0_8 + a0_5 + a0_6) := by
      simp [bxm, D]; unfold wrap64; omega
    simp only [t1, t2, Option.bind_some, beq_self_eq_true, Bool.and_self, if_true, gatherumref04_Within.f, q04_Empty]
    have hne : ¬ emp a0_10 a0_8 (a0_10 + a0_4) (a0_8 + a0_5) := by unfold emp; omega
    have c1 : a0_10 + a0_4 ≤ a0_10 + a0_4 + a0_6 := by omega
    have c2 : a0_8 - a0_6 ≤ a0_8 := by omega
    have c3 : a0_8 + a0_5 ≤ a0_8 + a0_5 + a0_6 := by omega
    simp only [hne, c1, c2, c3, decide_false, decide_true, Int.le_refl, Bool.false_eq_true, if_false, if_true, Option.bind_some]
end Go.Proofs.Ythgmjhidigoneaa.PurePanelTurns
