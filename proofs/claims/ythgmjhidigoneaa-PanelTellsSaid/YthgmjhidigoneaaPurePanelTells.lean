/- The plain law PanelTells, over the functions that the executor tells: no Go, no memory. -/
import Derived.Test.YthgmjhidigoneaaXPanelTells
import Derived.Test.YthgmjhidigoneaaAid
namespace Go.Proofs.Ythgmjhidigoneaa.PurePanelTells
open Go Go.RowKit Go.Proofs.Ythgmjhidigoneaa.Sy Go.Proofs.Ythgmjhidigoneaa.XPanelTells Go.Proofs.Ythgmjhidigoneaa.Aid
set_option linter.unusedVariables false
set_option linter.unusedSimpArgs false

set_option maxRecDepth 100000
/-! ### words of the plain laws -/
def emp (a b c d : Int) : Prop := c ≤ a ∨ d ≤ b
instance (a b c d : Int) : Decidable (emp a b c d) := by unfold emp; infer_instance
/-- A rectangle, brought by a place. -/
def bxm (t ax ay a b c d : Int) : Int × Int × Int × Int :=
  (min (wrap64 ((D t a b).1 + ax)) (wrap64 ((D t c d).1 + ax)), min (wrap64 ((D t a b).2 + ay)) (wrap64 ((D t c d).2 + ay)), max (wrap64 ((D t a b).1 + ax)) (wrap64 ((D t c d).1 + ax)), max (wrap64 ((D t a b).2 + ay)) (wrap64 ((D t c d).2 + ay)))
/-- How many plates a sheet has; how it is turned over; where may be printed; where a block may be. -/
def plt (s : Int) : Int := if s = 1 ∨ s = 2 then 2 else if s = 3 ∨ s = 4 then 1 else 0
def flp (s w h : Int) : Int × Int × Int := if plt s = 0 then (0, 0, 0) else if s = 2 ∨ s = 4 then (6, 0, h) else (4, w, 0)
def are (s w h side g t : Int) : Int × Int × Int × Int := if plt s = 0 then (0, 0, 0, 0) else if s = 2 ∨ s = 4 then (side, max g t, wrap64 (w - side), wrap64 (h - max g t)) else (side, g, wrap64 (w - side), wrap64 (h - t))
def reg (s w h : Int) (a : Int × Int × Int × Int) : Int × Int × Int × Int := if s = 3 then (a.1, a.2.1, min a.2.2.1 (w / 2), a.2.2.2) else if s = 4 then (a.1, a.2.1, a.2.2.1, min a.2.2.2 (h / 2)) else a
theorem plt_zero (s : Int) : plt s = 0 ↔ s < 1 ∨ s > 4 := by
  unfold plt
  by_cases h1 : s = 1 ∨ s = 2
  · rw [if_pos h1]; omega
  · rw [if_neg h1]; by_cases h2 : s = 3 ∨ s = 4
    · rw [if_pos h2]; omega
    · rw [if_neg h2]; omega
theorem min_R {a b : Int} (ha : R a) (hb : R b) : R (min a b) := by unfold R at *; omega
theorem max_R {a b : Int} (ha : R a) (hb : R b) : R (max a b) := by unfold R at *; omega
theorem are_R {s w h side g t : Int} (h1 : R side) (h2 : R g) (h3 : R t) : R (are s w h side g t).1 ∧ R (are s w h side g t).2.1 ∧ R (are s w h side g t).2.2.1 ∧ R (are s w h side g t).2.2.2 := by
  unfold are
  have h0 : R 0 := by unfold R; omega
  split
  · exact ⟨h0, h0, h0, h0⟩
  · split
    · exact ⟨h1, max_R h2 h3, R_wrap _, R_wrap _⟩
    · exact ⟨h1, h2, R_wrap _, R_wrap _⟩
theorem mni_eq (a b : Int) : mni a b = min a b := by unfold mni; split <;> omega
theorem mxi_eq (a b : Int) : mxi a b = max a b := by unfold mxi; split <;> omega
/-- A panel's size. -/
def psz (a b c x y z : Int) : Int × Int := (wrap64 (wrap64 (c + a) + b), wrap64 (wrap64 (z + x) + y))
theorem qSize (j0 : ByteArray) (j1 j2 j3 j4 j5 j6 j7 j8 j9 j10 j11 j12 j13 : Int) (j14 j15 : Ov) (j16 j17 j18 j19 j20 j21 j22 j23 j24 j25 j26 j27 j28 j29 j30 j31 j32 : Int) : panel_Size.f j0 j1 j2 j3 j4 j5 j6 j7 j8 j9 j10 j11 j12 j13 j14 j15 j16 j17 j18 j19 j20 j21 j22 j23 j24 j25 j26 j27 j28 j29 j30 j31 j32 = some (psz j4 j9 j10 j5 j7 j8) := rfl
/-- How many panels there are. -/
def pan (c r : Int) : Int := if (1 ≤ c ∧ c ≤ 64) ∧ (1 ≤ r ∧ r ≤ 64) then c * r else 0
theorem qIn (a b c : Int) : num_In.f a b c = some (decide (b ≤ a ∧ a ≤ c)) := by
  unfold num_In.f
  by_cases h : b ≤ a <;> simp [h]
theorem qPanels (c r : Int) (o : Ov) : scheme_Panels.f c r o = some (pan c r) := by
  unfold scheme_Panels.f pan
  simp only [qIn, Option.bind_some]
  by_cases h : 1 ≤ c ∧ c ≤ 64
  · by_cases h' : 1 ≤ r ∧ r ≤ 64
    · have : 0 ≤ c * r := Int.mul_nonneg (by omega) (by omega)
      have : c * r ≤ 64 * 64 := Int.mul_le_mul h.2 h'.2 (by omega) (by omega)
      simp only [h, h', and_self, decide_true, Bool.not_true, Bool.false_eq_true, if_false, if_true]
      rw [wrap_id (by omega) (by omega)]
    · simp [h, h']
  · simp [h]
theorem pan_bounds (c r : Int) : 0 ≤ pan c r ∧ pan c r ≤ 4096 := by
  unfold pan; split
  · rename_i h
    have : 0 ≤ c * r := Int.mul_nonneg (by omega) (by omega)
    have : c * r ≤ 64 * 64 := Int.mul_le_mul h.1.2 h.2.2 (by omega) (by omega)
    omega
  · omega
theorem pan_pos {c r : Int} (h : 0 < pan c r) : (1 ≤ c ∧ c ≤ 64) ∧ (1 ≤ r ∧ r ≤ 64) := by
  unfold pan at h; split at h
  · assumption
  · omega
/-- Where a panel begins. -/
def bxo (w h c r cp n : Int) : Int × Int := (wrap64 (Int.tmod n c * w), wrap64 (wrap64 (wrap64 (cp * r) + wrap64 (Int.tdiv n c)) * h))
/-- Is there such a panel, in such a copy? -/
def hasP (c r cp n : Int) : Prop := (0 ≤ n ∧ n < pan c r) ∧ (0 ≤ cp ∧ cp ≤ 1)
instance (c r cp n : Int) : Decidable (hasP c r cp n) := by unfold hasP; infer_instance
theorem hasP_ne {c r cp n : Int} (h : hasP c r cp n) : c ≠ 0 := by
  have := (pan_pos (show 0 < pan c r by have := h.1; omega)).1; omega
theorem qBox (j0 : ByteArray) (j1 j2 j3 j4 j5 j6 j7 j8 j9 j10 j11 j12 j13 : Int) (j14 j15 : Ov) (j16 j17 j18 j19 j20 j21 j22 j23 j24 j25 j26 j27 j28 j29 j30 j31 j32 : Int) (c r : Int) (o : Ov) (cp n : Int) : panel_Box.f j0 j1 j2 j3 j4 j5 j6 j7 j8 j9 j10 j11 j12 j13 j14 j15 j16 j17 j18 j19 j20 j21 j22 j23 j24 j25 j26 j27 j28 j29 j30 j31 j32 c r o cp n = some (if hasP c r cp n then ((bxo (psz j4 j9 j10 j5 j7 j8).1 (psz j4 j9 j10 j5 j7 j8).2 c r cp n).1, (bxo (psz j4 j9 j10 j5 j7 j8).1 (psz j4 j9 j10 j5 j7 j8).2 c r cp n).2, wrap64 ((bxo (psz j4 j9 j10 j5 j7 j8).1 (psz j4 j9 j10 j5 j7 j8).2 c r cp n).1 + (psz j4 j9 j10 j5 j7 j8).1), wrap64 ((bxo (psz j4 j9 j10 j5 j7 j8).1 (psz j4 j9 j10 j5 j7 j8).2 c r cp n).2 + (psz j4 j9 j10 j5 j7 j8).2)) else (0, 0, 0, 0)) := by
  have hb := pan_bounds c r
  unfold panel_Box.f
  simp only [qPanels, qIn, qSize, Option.bind_some, box_Of.f]
  rw [wrap_id (n := pan c r - 1) (by omega) (by omega)]
  by_cases h1 : 0 ≤ n ∧ n ≤ pan c r - 1
  · by_cases h2 : 0 ≤ cp ∧ cp ≤ 1
    · have hh : hasP c r cp n := ⟨by omega, h2⟩
      rw [if_pos hh, if_neg (by simpa using h1), if_neg (by simpa using h2), if_neg (by simpa using hasP_ne hh)]
      rfl
    · rw [if_neg (show ¬ hasP c r cp n from fun h => h2 h.2), if_neg (by simpa using h1), if_pos (by simp; omega)]
  · rw [if_neg (show ¬ hasP c r cp n from fun h => h1 (by have := h.1; omega)), if_pos (by simp; omega)]
theorem qTurnDo (K : Nat) (t x y : Int) (hx : R x) (hy : R y) : turn_Do.f (K + 50) t x y = some (D t x y) := by
  have h4 : t % 4 = t % 8 % 4 := by omega
  rcases eight t with h | h | h | h | h | h | h | h <;> rw [h] at h4 <;>
    simp [turn_Do.f, turn_Mirrors.f, and4, and3, h, h4, turn_Do.l0, turn_Do.l1, D, wl1, wl2, wl3, wnn hx, wnn hy]
theorem qPlaceDo (K : Nat) (t ax ay x y : Int) (hx : R x) (hy : R y) : place_Do.f (K + 50) t ax ay x y = some (wrap64 ((D t x y).1 + ax), wrap64 ((D t x y).2 + ay)) := by
  simp only [place_Do.f, qTurnDo K _ _ _ hx hy, Option.bind_some]
theorem qTurnThen (a b : Int) : turn_Then.f a b = some (th a b) := by
  unfold turn_Then.f turn_Mirrors.f th
  simp only [Option.bind_some, xor4, and3, wrap_m4, or34 _ _ (c04 _)]
  simp only [and4]
  by_cases h : b % 8 < 4 <;> simp [h]
theorem qPlaceThen (K : Nat) (t x y t' x' y' : Int) (hx : R x) (hy : R y) : place_Then.f (K + 50) t x y t' x' y' = some (th t t', wrap64 ((D t' x y).1 + x'), wrap64 ((D t' x y).2 + y')) := by
  simp only [place_Then.f, qPlaceDo K _ _ _ _ _ hx hy, qTurnThen, Option.bind_some]
/-- How the leaf comes to lie. -/
def lis (w h X Y : Int) (fx fy : Bool) : Int × Int × Int :=
  if fx then (if fy then (2, wrap64 (X + w), wrap64 (Y + h)) else (4, wrap64 (X + w), wrap64 (-Y))) else (if fy then (6, wrap64 (-X), wrap64 (Y + h)) else (0, wrap64 (-X), wrap64 (-Y)))
theorem qLies (K : Nat) (j0 : ByteArray) (j1 j2 j3 j4 j5 j6 j7 j8 j9 j10 j11 j12 j13 : Int) (j14 j15 : Ov) (j16 j17 j18 j19 j20 j21 j22 j23 j24 j25 j26 j27 j28 j29 j30 j31 j32 : Int) (c r : Int) (o : Ov) (cp n p0 : Int) (fx fy : Bool) : panel_Lies.f (K + 50) j0 j1 j2 j3 j4 j5 j6 j7 j8 j9 j10 j11 j12 j13 j14 j15 j16 j17 j18 j19 j20 j21 j22 j23 j24 j25 j26 j27 j28 j29 j30 j31 j32 c r o cp n p0 fx fy = some (if hasP c r cp n then lis (psz j4 j9 j10 j5 j7 j8).1 (psz j4 j9 j10 j5 j7 j8).2 (bxo (psz j4 j9 j10 j5 j7 j8).1 (psz j4 j9 j10 j5 j7 j8).2 c r cp n).1 (bxo (psz j4 j9 j10 j5 j7 j8).1 (psz j4 j9 j10 j5 j7 j8).2 c r cp n).2 fx fy else (0, 0, 0)) := by
  have hb := pan_bounds c r
  unfold panel_Lies.f
  simp only [qPanels, qIn, qSize, qBox, Option.bind_some, place_Move.f, place_FlipX.f, place_FlipY.f]
  rw [wrap_id (n := pan c r - 1) (by omega) (by omega)]
  by_cases h1 : 0 ≤ n ∧ n ≤ pan c r - 1
  · by_cases h2 : 0 ≤ cp ∧ cp ≤ 1
    · have hh : hasP c r cp n := ⟨by omega, h2⟩
      rw [if_pos hh, if_pos hh, if_neg (by simpa using h1), if_neg (by simpa using h2)]
      simp only [qPlaceThen K _ _ _ _ _ _ (R_wrap _) (R_wrap _), Option.bind_some]
      have hX : R (bxo (psz j4 j9 j10 j5 j7 j8).1 (psz j4 j9 j10 j5 j7 j8).2 c r cp n).1 := R_wrap _
      have hY : R (bxo (psz j4 j9 j10 j5 j7 j8).1 (psz j4 j9 j10 j5 j7 j8).2 c r cp n).2 := R_wrap _
      have hw : R (psz j4 j9 j10 j5 j7 j8).1 := R_wrap _
      have hy : R (psz j4 j9 j10 j5 j7 j8).2 := R_wrap _
      generalize (bxo (psz j4 j9 j10 j5 j7 j8).1 (psz j4 j9 j10 j5 j7 j8).2 c r cp n).1 = X at *
      generalize (bxo (psz j4 j9 j10 j5 j7 j8).1 (psz j4 j9 j10 j5 j7 j8).2 c r cp n).2 = Y at *
      generalize (psz j4 j9 j10 j5 j7 j8).1 = w at *
      generalize (psz j4 j9 j10 j5 j7 j8).2 = h at *
      unfold R at *
      cases fx <;> cases fy <;> simp [lis, th, D] <;> unfold wrap64 <;> omega
    · simp only [if_neg (show ¬ hasP c r cp n from fun h => h2 h.2)]; rw [if_neg (by simpa using h1), if_pos (by simp; omega)]
  · simp only [if_neg (show ¬ hasP c r cp n from fun h => h1 (by have := h.1; omega))]; rw [if_pos (by simp; omega)]
theorem q20Size (j0 : ByteArray) (j1 j2 j3 j4 j5 j6 j7 j8 j9 j10 j11 j12 j13 : Int) (j14 j15 : Ov) (j16 j17 j18 j19 j20 j21 j22 j23 j24 j25 j26 j27 j28 j29 j30 j31 j32 : Int) : gatherumref20_Size.f j0 j1 j2 j3 j4 j5 j6 j7 j8 j9 j10 j11 j12 j13 j14 j15 j16 j17 j18 j19 j20 j21 j22 j23 j24 j25 j26 j27 j28 j29 j30 j31 j32 = some (psz j4 j9 j10 j5 j7 j8) := rfl
theorem q11Panels (c r : Int) (o : Ov) : gatherumref11_Panels.f c r o = some (pan c r) := by rw [← qPanels c r o]; rfl
theorem q03_Do (t x y : Int) (hx : R x) (hy : R y) : gatherumref03_Do.f (M t).1 (M t).2.1 (M t).2.2.1 (M t).2.2.2 x y = some (D t x y) := by
  have h1 : wrap64 x = x := R_id hx
  have h2 : wrap64 y = y := R_id hy
  rcases eight t with h | h | h | h | h | h | h | h <;>
    simp [gatherumref03_Do.f, M, D, h, wl0, h1, h2, wrap_wrap, wnn hx, wnn hy]
theorem tm4 (x : Int) (h : 0 ≤ x) : Int.tmod x 4 = x % 4 := Int.tmod_eq_emod_of_nonneg h
theorem q03_Of (K : Nat) (t : Int) : gatherumref03_Of.f (K + 50) t = some (M t) := by
  rcases eight t with h | h | h | h | h | h | h | h <;>
    simp [gatherumref03_Of.f, and7, h, gatherumref03_Of.l0, gatherumref03_Of.l1, M, wl0, wl1, wl2, wl3, wm1, tm4]
theorem q03Then (a b : Int) : gatherumref03_Then.f (M a).1 (M a).2.1 (M a).2.2.1 (M a).2.2.2 (M b).1 (M b).2.1 (M b).2.2.1 (M b).2.2.2 = some (M (th a b)) := by
  obtain ⟨x, hx⟩ := fin8 a
  obtain ⟨y, hy⟩ := fin8 b
  rw [M_red a, M_red b, th_red a b, hx, hy]
  have key : ∀ x y : Fin 8, gatherumref03_Then.f (M x.1).1 (M x.1).2.1 (M x.1).2.2.1 (M x.1).2.2.2 (M y.1).1 (M y.1).2.1 (M y.1).2.2.1 (M y.1).2.2.2 = some (M (th x.1 y.1)) := by decide +kernel
  exact key x y
theorem th_least (t i : Int) (h0 : 0 ≤ i) (h : i < bk t) : th t i ≠ 0 := by
  obtain ⟨x, hx⟩ := fin8 t
  have hb := bk_bounds t
  rw [bk_red, hx] at h hb
  obtain ⟨n, rfl⟩ : ∃ n : Fin 8, i = (n.1 : Int) := ⟨⟨i.toNat, by omega⟩, by simp; omega⟩
  rw [th_red, hx]
  have key : ∀ x n : Fin 8, (n.1 : Int) < bk x.1 → th x.1 ((n.1 : Int) % 8) ≠ 0 := by decide +kernel
  exact key x n h
theorem M_zero (a : Int) : ((M a).1 == (M 0).1 && ((M a).2.1 == (M 0).2.1 && ((M a).2.2.1 == (M 0).2.2.1 && ((M a).2.2.2 == (M 0).2.2.2)))) = decide (a % 8 = 0) := by
  obtain ⟨x, hx⟩ := fin8 a
  rw [M_red a, hx]
  have key : ∀ x : Fin 8, ((M x.1).1 == (M 0).1 && ((M x.1).2.1 == (M 0).2.1 && ((M x.1).2.2.1 == (M 0).2.2.1 && ((M x.1).2.2.2 == (M 0).2.2.2)))) = decide ((x.1 : Int) = 0) := by decide +kernel
  exact key x
theorem q04BackLoop (K : Nat) (t x y : Int) (hx : R x) (hy : R y) (d : Nat) : ∀ (k : Nat) (i : Int), 0 ≤ i → i ≤ bk t → bk t - i = d → gatherumref04_Back.l0 (K + 50) t x y (k + d + 1) i = some (bk t, wrap64 (-(D (bk t) x y).1), wrap64 (-(D (bk t) x y).2)) := by
  have hb := bk_bounds t
  induction d with
  | zero =>
    intro k i h0 h1 hd
    obtain rfl : i = bk t := by omega
    have ht : th t (bk t) = 0 := (th_back t).1
    simp only [gatherumref04_Back.l0, Nat.add_zero, q03_Of K, q03Then, Option.bind_some, M_zero, ht, Int.zero_emod, decide_true, if_true, q03_Do _ _ _ hx hy, Int.zero_sub]
    rw [if_pos (by simp; omega)]
  | succ d ih =>
    intro k i h0 h1 hd
    have hne : th t i % 8 ≠ 0 := by have := th_bounds t i; have := th_least t i h0 (by omega); omega
    rw [show k + (d + 1) + 1 = (k + d + 1) + 1 by omega]
    rw [gatherumref04_Back.l0]
    simp only [q03_Of K, q03Then, Option.bind_some, M_zero, decide_eq_false hne, Bool.false_eq_true, if_false]
    rw [if_pos (by simp; omega), wrap_id (by omega) (by omega)]
    exact ih k (i + 1) (by omega) (by omega) (by omega)
theorem q04Back (K : Nat) (t x y : Int) (hx : R x) (hy : R y) : gatherumref04_Back.f (K + 50) t x y = some (bk t, wrap64 (-(D (bk t) x y).1), wrap64 (-(D (bk t) x y).2)) := by
  have hb := bk_bounds t
  have h := q04BackLoop K t x y hx hy (bk t).toNat (K + 49 - (bk t).toNat) 0 (by omega) hb.1 (by omega)
  rw [show K + 49 - (bk t).toNat + (bk t).toNat + 1 = K + 50 by omega] at h
  exact h
theorem q04_Do (K : Nat) (t ax ay x y : Int) (hx : R x) (hy : R y) : gatherumref04_Do.f (K + 50) t ax ay x y = some (wrap64 ((D t x y).1 + ax), wrap64 ((D t x y).2 + ay)) := by
  simp only [gatherumref04_Do.f, q03_Of K t, Option.bind_some, q03_Do t x y hx hy]
theorem q03Turn (K : Nat) (a : Int) : gatherumref03_Turn.f (K + 50) (M a).1 (M a).2.1 (M a).2.2.1 (M a).2.2.2 = some (a % 8) := by
  have e1 : wrap64 (1 + 1) = 2 := wl2
  have e2 : wrap64 (2 + 1) = 3 := wl3
  have e3 : wrap64 (3 + 1) = 4 := by decide +kernel
  have e4 : wrap64 (4 + 1) = 5 := by decide +kernel
  have e5 : wrap64 (5 + 1) = 6 := by decide +kernel
  have e6 : wrap64 (6 + 1) = 7 := by decide +kernel
  rcases eight a with h | h | h | h | h | h | h | h <;>
    simp [gatherumref03_Turn.f, gatherumref03_Turn.l0, q03_Of K, M, h, wl1, e1, e2, e3, e4, e5, e6, show wrap64 2 = 2 from wl2, show wrap64 3 = 3 from wl3, show wrap64 4 = 4 from e3, show wrap64 5 = 5 from e4, show wrap64 6 = 6 from e5, show wrap64 7 = 7 from e6]
theorem q04Then (K : Nat) (t x y t' x' y' : Int) (hx : R x) (hy : R y) : gatherumref04_Then.f (K + 50) t x y t' x' y' = some (th t t', wrap64 ((D t' x y).1 + x'), wrap64 ((D t' x y).2 + y')) := by
  have hb := th_bounds t t'
  have hm : th t t' % 8 = th t t' := by omega
  simp only [gatherumref04_Then.f, q04_Do K _ _ _ _ _ hx hy, q03_Of K, q03Then, q03Turn K, Option.bind_some, hm]
def ont (w h X Y : Int) (fx fy : Bool) : Int × Int × Int :=
  if fx then (if fy then (2, wrap64 (X + w), wrap64 (Y + h)) else (4, wrap64 (X + w), Y)) else (if fy then (6, X, wrap64 (Y + h)) else (0, X, Y))
theorem q20Onto (K : Nat) (j0 : ByteArray) (j1 j2 j3 j4 j5 j6 j7 j8 j9 j10 j11 j12 j13 : Int) (j14 j15 : Ov) (j16 j17 j18 j19 j20 j21 j22 j23 j24 j25 j26 j27 j28 j29 j30 j31 j32 : Int) (c r : Int) (o : Ov) (cp n p0 : Int) (fx fy : Bool) (hc : c ≠ 0) : gatherumref20_Onto.f (K + 50) j0 j1 j2 j3 j4 j5 j6 j7 j8 j9 j10 j11 j12 j13 j14 j15 j16 j17 j18 j19 j20 j21 j22 j23 j24 j25 j26 j27 j28 j29 j30 j31 j32 c r o cp n p0 fx fy = some (ont (psz j4 j9 j10 j5 j7 j8).1 (psz j4 j9 j10 j5 j7 j8).2 (bxo (psz j4 j9 j10 j5 j7 j8).1 (psz j4 j9 j10 j5 j7 j8).2 c r cp n).1 (bxo (psz j4 j9 j10 j5 j7 j8).1 (psz j4 j9 j10 j5 j7 j8).2 c r cp n).2 fx fy) := by
  unfold gatherumref20_Onto.f
  rw [q20Size, Option.bind_some, if_neg (by simpa using hc)]
  have hX : R (bxo (psz j4 j9 j10 j5 j7 j8).1 (psz j4 j9 j10 j5 j7 j8).2 c r cp n).1 := R_wrap _
  have hY : R (bxo (psz j4 j9 j10 j5 j7 j8).1 (psz j4 j9 j10 j5 j7 j8).2 c r cp n).2 := R_wrap _
  have hy : R (psz j4 j9 j10 j5 j7 j8).2 := R_wrap _
  have h0 : R 0 := by unfold R; omega
  simp only [q04Then K _ _ _ _ _ _ h0 hy, Option.bind_some]
  show (if fx = true then (if fy = true then some (th 6 4, wrap64 ((D 4 0 (psz j4 j9 j10 j5 j7 j8).2).1 + wrap64 ((bxo (psz j4 j9 j10 j5 j7 j8).1 (psz j4 j9 j10 j5 j7 j8).2 c r cp n).1 + (psz j4 j9 j10 j5 j7 j8).1)), wrap64 ((D 4 0 (psz j4 j9 j10 j5 j7 j8).2).2 + (bxo (psz j4 j9 j10 j5 j7 j8).1 (psz j4 j9 j10 j5 j7 j8).2 c r cp n).2)) else some (4, wrap64 ((bxo (psz j4 j9 j10 j5 j7 j8).1 (psz j4 j9 j10 j5 j7 j8).2 c r cp n).1 + (psz j4 j9 j10 j5 j7 j8).1), (bxo (psz j4 j9 j10 j5 j7 j8).1 (psz j4 j9 j10 j5 j7 j8).2 c r cp n).2)) else (if fy = true then some (th 6 0, wrap64 ((D 0 0 (psz j4 j9 j10 j5 j7 j8).2).1 + (bxo (psz j4 j9 j10 j5 j7 j8).1 (psz j4 j9 j10 j5 j7 j8).2 c r cp n).1), wrap64 ((D 0 0 (psz j4 j9 j10 j5 j7 j8).2).2 + (bxo (psz j4 j9 j10 j5 j7 j8).1 (psz j4 j9 j10 j5 j7 j8).2 c r cp n).2)) else some (0, (bxo (psz j4 j9 j10 j5 j7 j8).1 (psz j4 j9 j10 j5 j7 j8).2 c r cp n).1, (bxo (psz j4 j9 j10 j5 j7 j8).1 (psz j4 j9 j10 j5 j7 j8).2 c r cp n).2))) = _
  generalize (bxo (psz j4 j9 j10 j5 j7 j8).1 (psz j4 j9 j10 j5 j7 j8).2 c r cp n).1 = X at *
  generalize (bxo (psz j4 j9 j10 j5 j7 j8).1 (psz j4 j9 j10 j5 j7 j8).2 c r cp n).2 = Y at *
  generalize (psz j4 j9 j10 j5 j7 j8).1 = w at *
  generalize (psz j4 j9 j10 j5 j7 j8).2 = h at *
  unfold R at *
  cases fx <;> cases fy <;> simp [ont, th, D] <;> unfold wrap64 <;> omega
theorem ont_R (w h X Y : Int) (fx fy : Bool) (hX : R X) (hY : R Y) : R (ont w h X Y fx fy).2.1 ∧ R (ont w h X Y fx fy).2.2 := by
  cases fx <;> cases fy <;> exact ⟨by first | exact hX | exact R_wrap _, by first | exact hY | exact R_wrap _⟩
theorem ont_back (w h X Y : Int) (fx fy : Bool) (hX : R X) (hY : R Y) : (bk (ont w h X Y fx fy).1, wrap64 (-(D (bk (ont w h X Y fx fy).1) (ont w h X Y fx fy).2.1 (ont w h X Y fx fy).2.2).1), wrap64 (-(D (bk (ont w h X Y fx fy).1) (ont w h X Y fx fy).2.1 (ont w h X Y fx fy).2.2).2)) = lis w h X Y fx fy := by
  unfold R at *
  cases fx <;> cases fy <;> simp [ont, lis, bk, D] <;> unfold wrap64 <;> omega
theorem alive : gatherumlaw20_alive.f 50 = some true := by decide +kernel
theorem PanelTells (a0_0 : ByteArray) (a0_1 : Int) (a0_2 : Int) (a0_3 : Int) (a0_4 : Int) (a0_5 : Int) (a0_6 : Int) (a0_7 : Int) (a0_8 : Int) (a0_9 : Int) (a0_10 : Int) (a0_11 : Int) (a0_12 : Int) (a0_13 : Int) (a0_14 : Ov) (a0_15 : Ov) (a0_16 : Int) (a0_17 : Int) (a0_18 : Int) (a0_19 : Int) (a0_20 : Int) (a0_21 : Int) (a0_22 : Int) (a0_23 : Int) (a0_24 : Int) (a0_25 : Int) (a0_26 : Int) (a0_27 : Int) (a0_28 : Int) (a0_29 : Int) (a0_30 : Int) (a0_31 : Int) (a0_32 : Int) (a1_0 : Int) (a1_1 : Int) (a1_2 : Ov) (a2 : Int) (a3 : Int) (a4_0 : Int) (a4_1 : Bool) (a4_2 : Bool) (w0_0 : a0_0.size ≤ maxLen) (w0_1 : (Lit.int .i64 a0_1).wf = true) (w0_2 : (Lit.int .i64 a0_2).wf = true) (w0_3 : (Lit.int .i64 a0_3).wf = true) (w0_4 : (Lit.int .i64 a0_4).wf = true) (w0_5 : (Lit.int .i64 a0_5).wf = true) (w0_6 : (Lit.int .i64 a0_6).wf = true) (w0_7 : (Lit.int .i64 a0_7).wf = true) (w0_8 : (Lit.int .i64 a0_8).wf = true) (w0_9 : (Lit.int .i64 a0_9).wf = true) (w0_10 : (Lit.int .i64 a0_10).wf = true) (w0_11 : (Lit.int .i64 a0_11).wf = true) (w0_12 : (Lit.int .i64 a0_12).wf = true) (w0_13 : (Lit.int .i64 a0_13).wf = true) (w0_16 : (Lit.int .i64 a0_16).wf = true) (w0_17 : (Lit.int .i64 a0_17).wf = true) (w0_18 : (Lit.int .i64 a0_18).wf = true) (w0_19 : (Lit.int .i64 a0_19).wf = true) (w0_20 : (Lit.int .i64 a0_20).wf = true) (w0_21 : (Lit.int .i64 a0_21).wf = true) (w0_22 : (Lit.int .i64 a0_22).wf = true) (w0_23 : (Lit.int .i64 a0_23).wf = true) (w0_24 : (Lit.int .i64 a0_24).wf = true) (w0_25 : (Lit.int .i64 a0_25).wf = true) (w0_26 : (Lit.int .i64 a0_26).wf = true) (w0_27 : (Lit.int .i64 a0_27).wf = true) (w0_28 : (Lit.int .i64 a0_28).wf = true) (w0_29 : (Lit.int .i64 a0_29).wf = true) (w0_30 : (Lit.int .i64 a0_30).wf = true) (w0_31 : (Lit.int .i64 a0_31).wf = true) (w0_32 : (Lit.int .i64 a0_32).wf = true) (w1_0 : (Lit.int .i64 a1_0).wf = true) (w1_1 : (Lit.int .i64 a1_1).wf = true) (w2 : (Lit.int .i64 a2).wf = true) (w3 : (Lit.int .i64 a3).wf = true) (w4_0 : (Lit.int .i64 a4_0).wf = true) : ∃ K : Nat, gatherumlaw20_PanelTells.f K a0_0 a0_1 a0_2 a0_3 a0_4 a0_5 a0_6 a0_7 a0_8 a0_9 a0_10 a0_11 a0_12 a0_13 a0_14 a0_15 a0_16 a0_17 a0_18 a0_19 a0_20 a0_21 a0_22 a0_23 a0_24 a0_25 a0_26 a0_27 a0_28 a0_29 a0_30 a0_31 a0_32 a1_0 a1_1 a1_2 a2 a3 a4_0 a4_1 a4_2 = some true := by
  refine ⟨50, ?_⟩
  have q20Onto' := fun hc => q20Onto 0 a0_0 a0_1 a0_2 a0_3 a0_4 a0_5 a0_6 a0_7 a0_8 a0_9 a0_10 a0_11 a0_12 a0_13 a0_14 a0_15 a0_16 a0_17 a0_18 a0_19 a0_20 a0_21 a0_22 a0_23 a0_24 a0_25 a0_26 a0_27 a0_28 a0_29 a0_30 a0_31 a0_32 a1_0 a1_1 a1_2 (Go.bits .and .i64 a2 1) a3 a4_0 a4_1 a4_2 hc
  unfold gatherumlaw20_PanelTells.f
  simp only [alive, Option.bind_some, Bool.not_true, Bool.false_eq_true, if_false, q20Size, qSize, panel_Block.f, beq_self_eq_true, qBox, qLies 0, q11Panels]
  have h01 : Go.bits .and .i64 a2 1 = 0 ∨ Go.bits .and .i64 a2 1 = 1 := by rw [and1]; omega
  generalize Go.bits .and .i64 a2 1 = cp at *
  by_cases h1 : a3 < 0
  · have hh : ¬ hasP a1_0 a1_1 cp a3 := fun h => by have := h.1; omega
    rw [if_pos (by simpa using h1), if_neg hh, if_neg hh]
    rfl
  · rw [if_neg (by simpa using h1)]
    by_cases h2 : pan a1_0 a1_1 ≤ a3
    · have hh : ¬ hasP a1_0 a1_1 cp a3 := fun h => by have := h.1; omega
      rw [if_pos (by simpa using h2), if_neg hh, if_neg hh]
      rfl
    · have hh : hasP a1_0 a1_1 cp a3 := ⟨by omega, by omega⟩
      have hz := hasP_ne hh
      have hc1 : wrap64 (2 + cp) = 2 + cp := wrap_id (by omega) (by omega)
      have hc2 : wrap64 (-1 - cp) = -1 - cp := wrap_id (by omega) (by omega)
      have n1 : ¬ hasP a1_0 a1_1 (wrap64 (2 + cp)) a3 := fun h => by have := h.2; omega
      have n2 : ¬ hasP a1_0 a1_1 (wrap64 (-1 - cp)) a3 := fun h => by have := h.2; omega
      have hX : R (bxo (psz a0_4 a0_9 a0_10 a0_5 a0_7 a0_8).1 (psz a0_4 a0_9 a0_10 a0_5 a0_7 a0_8).2 a1_0 a1_1 cp a3).1 := R_wrap _
      have hY : R (bxo (psz a0_4 a0_9 a0_10 a0_5 a0_7 a0_8).1 (psz a0_4 a0_9 a0_10 a0_5 a0_7 a0_8).2 a1_0 a1_1 cp a3).2 := R_wrap _
      have ho := ont_R (psz a0_4 a0_9 a0_10 a0_5 a0_7 a0_8).1 (psz a0_4 a0_9 a0_10 a0_5 a0_7 a0_8).2 _ _ a4_1 a4_2 hX hY
      rw [if_neg (by simpa using h2), if_neg (by simpa using hz)]
      simp only [if_pos hh, if_neg n1, if_neg n2, q20Onto' hz, gatherumref04_Of.f, Option.bind_some, q04Back 0 _ _ _ ho.1 ho.2]
      have hb := ont_back (psz a0_4 a0_9 a0_10 a0_5 a0_7 a0_8).1 (psz a0_4 a0_9 a0_10 a0_5 a0_7 a0_8).2 _ _ a4_1 a4_2 hX hY
      simp only [Prod.ext_iff, bxo] at hb
      simp only [bxo, hb.2.1, hb.2.2]
      simp only [hb.1, beq_self_eq_true, Bool.and_self, if_true]
end Go.Proofs.Ythgmjhidigoneaa.PurePanelTells
