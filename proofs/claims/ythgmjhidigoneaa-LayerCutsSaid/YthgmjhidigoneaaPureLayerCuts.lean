/- The plain law LayerCuts, over the functions that the executor tells: no Go, no memory. -/
import Derived.Test.YthgmjhidigoneaaXLayerCuts
import Derived.Test.YthgmjhidigoneaaAid
namespace Go.Proofs.Ythgmjhidigoneaa.PureLayerCuts
open Go Go.RowKit Go.Proofs.Ythgmjhidigoneaa.Sy Go.Proofs.Ythgmjhidigoneaa.XLayerCuts Go.Proofs.Ythgmjhidigoneaa.Aid
set_option linter.unusedVariables false
set_option linter.unusedSimpArgs false

set_option maxRecDepth 100000
/-! ### words of the plain laws -/
def emp (a b c d : Int) : Prop := c ≤ a ∨ d ≤ b
instance (a b c d : Int) : Decidable (emp a b c d) := by unfold emp; infer_instance
/-- A rectangle, brought by a place. -/
def bxm (t ax ay a b c d : Int) : Int × Int × Int × Int :=
  (min (wrap64 ((D t a b).1 + ax)) (wrap64 ((D t c d).1 + ax)), min (wrap64 ((D t a b).2 + ay)) (wrap64 ((D t c d).2 + ay)), max (wrap64 ((D t a b).1 + ax)) (wrap64 ((D t c d).1 + ax)), max (wrap64 ((D t a b).2 + ay)) (wrap64 ((D t c d).2 + ay)))
/-- How many plates a sheet has; how it is turned over; where may be printed; where a block may be. -/
def plt (s : Int) : Int := if s = 1 ∨ s = 2 then 2 else if s = 3 ∨ s = 4 then 1 else 0
def flp (s w h : Int) : Int × Int × Int := if plt s = 0 then (0, 0, 0) else if s = 2 ∨ s = 4 then (6, 0, h) else (4, w, 0)
def are (s w h side g t : Int) : Int × Int × Int × Int := if plt s = 0 then (0, 0, 0, 0) else if s = 2 ∨ s = 4 then (side, max g t, wrap64 (w - side), wrap64 (h - max g t)) else (side, g, wrap64 (w - side), wrap64 (h - t))
def reg (s w h : Int) (a : Int × Int × Int × Int) : Int × Int × Int × Int := if s = 3 then (a.1, a.2.1, min a.2.2.1 (w / 2), a.2.2.2) else if s = 4 then (a.1, a.2.1, a.2.2.1, min a.2.2.2 (h / 2)) else a
theorem plt_zero (s : Int) : plt s = 0 ↔ s < 1 ∨ s > 4 := by
  unfold plt
  by_cases h1 : s = 1 ∨ s = 2
  · rw [if_pos h1]; omega
  · rw [if_neg h1]; by_cases h2 : s = 3 ∨ s = 4
    · rw [if_pos h2]; omega
    · rw [if_neg h2]; omega
theorem min_R {a b : Int} (ha : R a) (hb : R b) : R (min a b) := by unfold R at *; omega
theorem max_R {a b : Int} (ha : R a) (hb : R b) : R (max a b) := by unfold R at *; omega
theorem are_R {s w h side g t : Int} (h1 : R side) (h2 : R g) (h3 : R t) : R (are s w h side g t).1 ∧ R (are s w h side g t).2.1 ∧ R (are s w h side g t).2.2.1 ∧ R (are s w h side g t).2.2.2 := by
  unfold are
  have h0 : R 0 := by unfold R; omega
  split
  · exact ⟨h0, h0, h0, h0⟩
  · split
    · exact ⟨h1, max_R h2 h3, R_wrap _, R_wrap _⟩
    · exact ⟨h1, h2, R_wrap _, R_wrap _⟩
theorem mni_eq (a b : Int) : mni a b = min a b := by unfold mni; split <;> omega
theorem mxi_eq (a b : Int) : mxi a b = max a b := by unfold mxi; split <;> omega
/-- A panel's size. -/
def psz (a b c x y z : Int) : Int × Int := (wrap64 (wrap64 (c + a) + b), wrap64 (wrap64 (z + x) + y))
def mt (a b c d a' b' c' d' : Int) : Int × Int × Int × Int := if emp (max a a') (max b b') (min c c') (min d d') then (0, 0, 0, 0) else (max a a', max b b', min c c', min d d')
def wit (a b c d a' b' c' d' : Int) : Prop := emp a b c d ∨ (a' ≤ a ∧ c ≤ c' ∧ b' ≤ b ∧ d ≤ d')
instance (a b c d a' b' c' d' : Int) : Decidable (wit a b c d a' b' c' d') := by unfold wit; infer_instance
theorem q04_Empty (a b c d : Int) : gatherumref04_Empty.f a b c d = some (decide (emp a b c d)) := by
  unfold gatherumref04_Empty.f emp
  by_cases h : c ≤ a <;> simp [h]
theorem qTurnDo (K : Nat) (t x y : Int) (hx : R x) (hy : R y) : turn_Do.f (K + 50) t x y = some (D t x y) := by
  have h4 : t % 4 = t % 8 % 4 := by omega
  rcases eight t with h | h | h | h | h | h | h | h <;> rw [h] at h4 <;>
    simp [turn_Do.f, turn_Mirrors.f, and4, and3, h, h4, turn_Do.l0, turn_Do.l1, D, wl1, wl2, wl3, wnn hx, wnn hy]
theorem qPlaceDo (K : Nat) (t ax ay x y : Int) (hx : R x) (hy : R y) : place_Do.f (K + 50) t ax ay x y = some (wrap64 ((D t x y).1 + ax), wrap64 ((D t x y).2 + ay)) := by
  simp only [place_Do.f, qTurnDo K _ _ _ hx hy, Option.bind_some]
theorem qTurnThen (a b : Int) : turn_Then.f a b = some (th a b) := by
  unfold turn_Then.f turn_Mirrors.f th
  simp only [Option.bind_some, xor4, and3, wrap_m4, or34 _ _ (c04 _)]
  simp only [and4]
  by_cases h : b % 8 < 4 <;> simp [h]
theorem qPlaceThen (K : Nat) (t x y t' x' y' : Int) (hx : R x) (hy : R y) : place_Then.f (K + 50) t x y t' x' y' = some (th t t', wrap64 ((D t' x y).1 + x'), wrap64 ((D t' x y).2 + y')) := by
  simp only [place_Then.f, qPlaceDo K _ _ _ _ _ hx hy, qTurnThen, Option.bind_some]
theorem qPlaceBox (K : Nat) (t ax ay a b c d : Int) (ha : R a) (hb : R b) (hc : R c) (hd : R d) : place_Box.f (K + 50) t ax ay a b c d = some (bxm t ax ay a b c d) := by
  simp only [place_Box.f, qPlaceDo K _ _ _ _ _ ha hb, qPlaceDo K _ _ _ _ _ hc hd, Option.bind_some, mni_eq, mxi_eq, bxm]
theorem qbEmpty (a b c d : Int) : box_Empty.f a b c d = some (decide (emp a b c d)) := by
  unfold box_Empty.f emp
  by_cases h : c ≤ a <;> simp [h]
theorem qbSplit (a b c d : Int) (u : Bool) (at_ : Int) (he : ¬ emp a b c d) : box_Split.f a b c d u at_ = some (if u = true then (if a < at_ ∧ at_ < c then [(a, b, at_, d), (at_, b, c, d)] else [(a, b, c, d)]) else (if b < at_ ∧ at_ < d then [(a, b, c, at_), (a, at_, c, d)] else [(a, b, c, d)])) := by
  unfold box_Split.f
  rw [qbEmpty, Option.bind_some, if_neg (by simpa using he)]
  cases u
  · by_cases h1 : b < at_ <;> by_cases h2 : at_ < d <;> simp [h1, h2]
  · by_cases h1 : a < at_ <;> by_cases h2 : at_ < c <;> simp [h1, h2]
theorem qTurnBack (a : Int) : turn_Back.f a = some (bk a) := by
  unfold turn_Back.f turn_Mirrors.f bk
  simp only [Option.bind_some, and4, and7, and3]
  by_cases h : a % 8 < 4
  · simp [h]; unfold wrap64; omega
  · simp [h]
theorem qPlaceBack (K : Nat) (t x y : Int) (hx : R x) (hy : R y) : place_Back.f (K + 50) t x y = some (bk t, wrap64 (-(D (bk t) x y).1), wrap64 (-(D (bk t) x y).2)) := by
  simp only [place_Back.f, qTurnBack, qTurnDo K _ _ _ hx hy, Option.bind_some, Int.zero_sub]
theorem q03_Do (t x y : Int) (hx : R x) (hy : R y) : gatherumref03_Do.f (M t).1 (M t).2.1 (M t).2.2.1 (M t).2.2.2 x y = some (D t x y) := by
  have h1 : wrap64 x = x := R_id hx
  have h2 : wrap64 y = y := R_id hy
  rcases eight t with h | h | h | h | h | h | h | h <;>
    simp [gatherumref03_Do.f, M, D, h, wl0, h1, h2, wrap_wrap, wnn hx, wnn hy]
theorem tm4 (x : Int) (h : 0 ≤ x) : Int.tmod x 4 = x % 4 := Int.tmod_eq_emod_of_nonneg h
theorem q03_Of (K : Nat) (t : Int) : gatherumref03_Of.f (K + 50) t = some (M t) := by
  rcases eight t with h | h | h | h | h | h | h | h <;>
    simp [gatherumref03_Of.f, and7, h, gatherumref03_Of.l0, gatherumref03_Of.l1, M, wl0, wl1, wl2, wl3, wm1, tm4]
theorem q04_Do (K : Nat) (t ax ay x y : Int) (hx : R x) (hy : R y) : gatherumref04_Do.f (K + 50) t ax ay x y = some (wrap64 ((D t x y).1 + ax), wrap64 ((D t x y).2 + ay)) := by
  simp only [gatherumref04_Do.f, q03_Of K t, Option.bind_some, q03_Do t x y hx hy]
theorem q04_low (a b : Int) : gatherumref04_low.f a b = some (min a b) := by
  unfold gatherumref04_low.f
  by_cases h : a < b
  · rw [if_pos (by simpa using h)]; congr 1; omega
  · rw [if_neg (by simpa using h)]; congr 1; omega
theorem q04_high (a b : Int) : gatherumref04_high.f a b = some (max a b) := by
  unfold gatherumref04_high.f
  by_cases h : b < a
  · rw [if_pos (by simpa using h)]; congr 1; omega
  · rw [if_neg (by simpa using h)]; congr 1; omega
theorem q04_Box (K : Nat) (t ax ay a b c d : Int) (ha : R a) (hb : R b) (hc : R c) (hd : R d) : gatherumref04_Box.f (K + 50) t ax ay a b c d = some (bxm t ax ay a b c d) := by
  simp only [gatherumref04_Box.f, q04_Do K _ _ _ _ _ ha hb, q04_Do K _ _ _ _ _ hc hd, Option.bind_some, q04_low, q04_high, bxm]
theorem q03Then (a b : Int) : gatherumref03_Then.f (M a).1 (M a).2.1 (M a).2.2.1 (M a).2.2.2 (M b).1 (M b).2.1 (M b).2.2.1 (M b).2.2.2 = some (M (th a b)) := by
  obtain ⟨x, hx⟩ := fin8 a
  obtain ⟨y, hy⟩ := fin8 b
  rw [M_red a, M_red b, th_red a b, hx, hy]
  have key : ∀ x y : Fin 8, gatherumref03_Then.f (M x.1).1 (M x.1).2.1 (M x.1).2.2.1 (M x.1).2.2.2 (M y.1).1 (M y.1).2.1 (M y.1).2.2.1 (M y.1).2.2.2 = some (M (th x.1 y.1)) := by decide +kernel
  exact key x y
theorem th_least (t i : Int) (h0 : 0 ≤ i) (h : i < bk t) : th t i ≠ 0 := by
  obtain ⟨x, hx⟩ := fin8 t
  have hb := bk_bounds t
  rw [bk_red, hx] at h hb
  obtain ⟨n, rfl⟩ : ∃ n : Fin 8, i = (n.1 : Int) := ⟨⟨i.toNat, by omega⟩, by simp; omega⟩
  rw [th_red, hx]
  have key : ∀ x n : Fin 8, (n.1 : Int) < bk x.1 → th x.1 ((n.1 : Int) % 8) ≠ 0 := by decide +kernel
  exact key x n h
theorem M_zero (a : Int) : ((M a).1 == (M 0).1 && ((M a).2.1 == (M 0).2.1 && ((M a).2.2.1 == (M 0).2.2.1 && ((M a).2.2.2 == (M 0).2.2.2)))) = decide (a % 8 = 0) := by
  obtain ⟨x, hx⟩ := fin8 a
  rw [M_red a, hx]
  have key : ∀ x : Fin 8, ((M x.1).1 == (M 0).1 && ((M x.1).2.1 == (M 0).2.1 && ((M x.1).2.2.1 == (M 0).2.2.1 && ((M x.1).2.2.2 == (M 0).2.2.2)))) = decide ((x.1 : Int) = 0) := by decide +kernel
  exact key x
theorem q04BackLoop (K : Nat) (t x y : Int) (hx : R x) (hy : R y) (d : Nat) : ∀ (k : Nat) (i : Int), 0 ≤ i → i ≤ bk t → bk t - i = d → gatherumref04_Back.l0 (K + 50) t x y (k + d + 1) i = some (bk t, wrap64 (-(D (bk t) x y).1), wrap64 (-(D (bk t) x y).2)) := by
  have hb := bk_bounds t
  induction d with
  | zero =>
    intro k i h0 h1 hd
    obtain rfl : i = bk t := by omega
    have ht : th t (bk t) = 0 := (th_back t).1
    simp only [gatherumref04_Back.l0, Nat.add_zero, q03_Of K, q03Then, Option.bind_some, M_zero, ht, Int.zero_emod, decide_true, if_true, q03_Do _ _ _ hx hy, Int.zero_sub]
    rw [if_pos (by simp; omega)]
  | succ d ih =>
    intro k i h0 h1 hd
    have hne : th t i % 8 ≠ 0 := by have := th_bounds t i; have := th_least t i h0 (by omega); omega
    rw [show k + (d + 1) + 1 = (k + d + 1) + 1 by omega]
    rw [gatherumref04_Back.l0]
    simp only [q03_Of K, q03Then, Option.bind_some, M_zero, decide_eq_false hne, Bool.false_eq_true, if_false]
    rw [if_pos (by simp; omega), wrap_id (by omega) (by omega)]
    exact ih k (i + 1) (by omega) (by omega) (by omega)
theorem q04Back (K : Nat) (t x y : Int) (hx : R x) (hy : R y) : gatherumref04_Back.f (K + 50) t x y = some (bk t, wrap64 (-(D (bk t) x y).1), wrap64 (-(D (bk t) x y).2)) := by
  have hb := bk_bounds t
  have h := q04BackLoop K t x y hx hy (bk t).toNat (K + 49 - (bk t).toNat) 0 (by omega) hb.1 (by omega)
  rw [show K + 49 - (bk t).toNat + (bk t).toNat + 1 = K + 50 by omega] at h
  exact h
theorem q04_Meet (a b c d a' b' c' d' : Int) : gatherumref04_Meet.f a b c d a' b' c' d' = some (mt a b c d a' b' c' d') := by
  simp only [gatherumref04_Meet.f, q04_low, q04_high, q04_Empty, Option.bind_some, mt]
  by_cases h : emp (max a a') (max b b') (min c c') (min d d') <;> simp [h]
theorem q38KeepNo (K : Nat) (x0 y0 x1 y1 t ax ay l0 l1 l2 l3 a b c d : Int) (r1 : R x0) (r2 : R y0) (r3 : R x1) (r4 : R y1) (hL : bxm t ax ay x0 y0 x1 y1 = (l0, l1, l2, l3)) (he : ¬ emp x0 y0 x1 y1) (hm : emp (max l0 a) (max l1 b) (min l2 c) (min l3 d)) :
    gatherumref38_Keep.f (K + 50) x0 y0 x1 y1 t ax ay a b c d = some (0, 0, 0, 0, 0, 0, 0, false) := by
  have h0 : emp 0 0 0 0 := by unfold emp; omega
  simp only [gatherumref38_Keep.f, gatherumref38_Lies.f, q04_Box K _ _ _ _ _ _ _ r1 r2 r3 r4, hL, Option.bind_some, q04_Meet, q04_Empty, mt, if_pos hm, he, decide_false, Bool.false_eq_true, if_false, h0, decide_true, if_true]
theorem q38KeepYes (K : Nat) (x0 y0 x1 y1 t ax ay l0 l1 l2 l3 a b c d : Int) (r1 : R x0) (r2 : R y0) (r3 : R x1) (r4 : R y1) (r5 : R ax) (r6 : R ay) (hL : bxm t ax ay x0 y0 x1 y1 = (l0, l1, l2, l3)) (he : ¬ emp x0 y0 x1 y1) (hab : a < c) (hcd : b < d) (h0 : l0 ≤ a) (h1 : l1 ≤ b) (h2 : c ≤ l2) (h3 : d ≤ l3) (ra : R a) (rb : R b) (rc : R c) (rd : R d)
    (p q r s : Int) (e1 : bxm (bk t) (wrap64 (-(D (bk t) ax ay).1)) (wrap64 (-(D (bk t) ax ay).2)) a b c d = (p, q, r, s)) :
    gatherumref38_Keep.f (K + 50) x0 y0 x1 y1 t ax ay a b c d = some (p, q, r, s, t, ax, ay, true) := by
  have hm : ¬ emp a b c d := by unfold emp; omega
  simp only [gatherumref38_Keep.f, gatherumref38_Lies.f, q04_Box K _ _ _ _ _ _ _ r1 r2 r3 r4, hL, Option.bind_some, q04_Meet, q04_Empty, mt, show max l0 a = a by omega, show max l1 b = b by omega, show min l2 c = c by omega, show min l3 d = d by omega, if_neg hm, hm, he, decide_false, Bool.false_eq_true, if_false, q04Back K _ _ _ r5 r6, q04_Box K _ _ _ _ _ _ _ ra rb rc rd, e1]
theorem q04_Within (a b c d a' b' c' d' : Int) : gatherumref04_Within.f a b c d a' b' c' d' = some (decide (wit a b c d a' b' c' d')) := by
  simp only [gatherumref04_Within.f, q04_Empty, Option.bind_some, wit]
  by_cases h : emp a b c d <;> by_cases h1 : a' ≤ a <;> by_cases h2 : c ≤ c' <;> by_cases h3 : b' ≤ b <;> simp [h, h1, h2, h3]
def nearP (x0 y0 x1 y1 t ax ay : Int) : Prop := (-1099511627776 ≤ x0 ∧ x0 ≤ 1099511627776) ∧ (-1099511627776 ≤ y0 ∧ y0 ≤ 1099511627776) ∧ (-1099511627776 ≤ x1 ∧ x1 ≤ 1099511627776) ∧ (-1099511627776 ≤ y1 ∧ y1 ≤ 1099511627776) ∧ (-1099511627776 ≤ ax ∧ ax ≤ 1099511627776) ∧ (-1099511627776 ≤ ay ∧ ay ≤ 1099511627776) ∧ 0 ≤ t ∧ t ≤ 7
instance (x0 y0 x1 y1 t ax ay : Int) : Decidable (nearP x0 y0 x1 y1 t ax ay) := by unfold nearP; infer_instance
theorem eightv (t : Int) (h : 0 ≤ t ∧ t ≤ 7) : t = 0 ∨ t = 1 ∨ t = 2 ∨ t = 3 ∨ t = 4 ∨ t = 5 ∨ t = 6 ∨ t = 7 := by omega
theorem wS {x : Int} (h : -1000000000000000000 ≤ x ∧ x ≤ 1000000000000000000) : wrap64 x = x := wrap_id (by omega) (by omega)
set_option maxHeartbeats 4000000 in
/-- What lies within where a near rectangle lies, is brought back into the rectangle, and from there to where it was. -/
theorem bx_back (x0 y0 x1 y1 t ax ay a b c d : Int) (hn : nearP x0 y0 x1 y1 t ax ay) (hx : x0 < x1) (hy : y0 < y1) (hab : a < c) (hcd : b < d)
    (l0 : (bxm t ax ay x0 y0 x1 y1).1 ≤ a) (l1 : (bxm t ax ay x0 y0 x1 y1).2.1 ≤ b) (l2 : c ≤ (bxm t ax ay x0 y0 x1 y1).2.2.1) (l3 : d ≤ (bxm t ax ay x0 y0 x1 y1).2.2.2) :
    ∃ p q r s, bxm (bk t) (wrap64 (-(D (bk t) ax ay).1)) (wrap64 (-(D (bk t) ax ay).2)) a b c d = (p, q, r, s) ∧ bxm t ax ay p q r s = (a, b, c, d) ∧ x0 ≤ p ∧ r ≤ x1 ∧ y0 ≤ q ∧ s ≤ y1 ∧ p < r ∧ q < s := by
  obtain ⟨⟨h1, h2⟩, ⟨h3, h4⟩, ⟨h5, h6⟩, ⟨h7, h8⟩, ⟨h9, h10⟩, ⟨h11, h12⟩, h13⟩ := hn
  have r1 : wrap64 (-x0) = -x0 := wS (by omega)
  have r2 : wrap64 (-y0) = -y0 := wS (by omega)
  have r3 : wrap64 (-x1) = -x1 := wS (by omega)
  have r4 : wrap64 (-y1) = -y1 := wS (by omega)
  have r5 : wrap64 (-ax) = -ax := wS (by omega)
  have r6 : wrap64 (-ay) = -ay := wS (by omega)
  rcases eightv t h13 with rfl | rfl | rfl | rfl | rfl | rfl | rfl | rfl
  all_goals
    simp only [bxm, D, bk, Int.reduceMod, Int.reduceNeg, Int.reduceLT, Int.reduceEq, if_true, if_false, r1, r2, r3, r4, r5, r6] at l0 l1 l2 l3 ⊢
    simp (disch := omega) only [wS, Int.neg_neg] at l0 l1 l2 l3
    have ha : -10000000000000 ≤ a ∧ a ≤ 10000000000000 := by omega
    have hb : -10000000000000 ≤ b ∧ b ≤ 10000000000000 := by omega
    have hc : -10000000000000 ≤ c ∧ c ≤ 10000000000000 := by omega
    have hd : -10000000000000 ≤ d ∧ d ≤ 10000000000000 := by omega
    refine ⟨_, _, _, _, rfl, ?_⟩
    simp (disch := omega) only [wS, Int.neg_neg, Prod.mk.injEq]
    refine ⟨⟨?_, ?_, ?_, ?_⟩, ?_, ?_, ?_, ?_, ?_, ?_⟩ <;> omega
theorem R_max {a b : Int} (h : R a) (h' : R b) : R (max a b) := ⟨by have := h.1; omega, by have := h.2; have := h'.2; omega⟩
theorem R_min {a b : Int} (h : R a) (h' : R b) : R (min a b) := ⟨by have := h.1; have := h'.1; omega, by have := h.2; omega⟩
theorem bxm_R (t ax ay x0 y0 x1 y1 : Int) : R (bxm t ax ay x0 y0 x1 y1).1 ∧ R (bxm t ax ay x0 y0 x1 y1).2.1 ∧ R (bxm t ax ay x0 y0 x1 y1).2.2.1 ∧ R (bxm t ax ay x0 y0 x1 y1).2.2.2 :=
  ⟨R_min (R_wrap _) (R_wrap _), R_min (R_wrap _) (R_wrap _), R_max (R_wrap _) (R_wrap _), R_max (R_wrap _) (R_wrap _)⟩
theorem qInR (a b c : Int) : gatherumref01_In.f a b c = some (decide (b ≤ a ∧ a ≤ c)) := by
  unfold gatherumref01_In.f
  by_cases h : b ≤ a <;> simp [h]
set_option maxHeartbeats 4000000 in
/-- A near rectangle that is none empty is brought to one that is none. -/
theorem bx_full (x0 y0 x1 y1 t ax ay : Int) (hn : nearP x0 y0 x1 y1 t ax ay) (hx : x0 < x1) (hy : y0 < y1) : (bxm t ax ay x0 y0 x1 y1).1 < (bxm t ax ay x0 y0 x1 y1).2.2.1 ∧ (bxm t ax ay x0 y0 x1 y1).2.1 < (bxm t ax ay x0 y0 x1 y1).2.2.2 := by
  obtain ⟨⟨h1, h2⟩, ⟨h3, h4⟩, ⟨h5, h6⟩, ⟨h7, h8⟩, ⟨h9, h10⟩, ⟨h11, h12⟩, h13⟩ := hn
  rcases eightv t h13 with rfl | rfl | rfl | rfl | rfl | rfl | rfl | rfl
  all_goals
    simp only [bxm, D, Int.reduceMod, Int.reduceNeg, Int.reduceLT, Int.reduceEq, if_true, if_false]
    simp (disch := omega) only [wS]
    omega
set_option maxHeartbeats 4000000 in
/-- What is brought apart is apart. -/
theorem bx_apart (x0 y0 x1 y1 t ax ay p q r s p' q' r' s' a b c d a' b' c' d' : Int) (hn : nearP x0 y0 x1 y1 t ax ay) (h : bxm t ax ay p q r s = (a, b, c, d)) (h' : bxm t ax ay p' q' r' s' = (a', b', c', d'))
    (k1 : x0 ≤ p) (k2 : r ≤ x1) (k3 : y0 ≤ q) (k4 : s ≤ y1) (k5 : p < r) (k6 : q < s) (k1' : x0 ≤ p') (k2' : r' ≤ x1) (k3' : y0 ≤ q') (k4' : s' ≤ y1) (k5' : p' < r') (k6' : q' < s') (ha : c ≤ a' ∨ d ≤ b') :
    emp (max p p') (max q q') (min r r') (min s s') := by
  obtain ⟨⟨h1, h2⟩, ⟨h3, h4⟩, ⟨h5, h6⟩, ⟨h7, h8⟩, ⟨h9, h10⟩, ⟨h11, h12⟩, h13⟩ := hn
  unfold emp
  rcases eightv t h13 with rfl | rfl | rfl | rfl | rfl | rfl | rfl | rfl
  all_goals
    simp only [bxm, D, Int.reduceMod, Int.reduceNeg, Int.reduceLT, Int.reduceEq, if_true, if_false, Prod.mk.injEq] at h h'
    simp (disch := omega) only [wS] at h h'
    omega
theorem alive : gatherumlaw38_alive.f 50 = some true := by decide +kernel
theorem near_eq (x0 y0 x1 y1 t ax ay : Int) : gatherumlaw38_near.f x0 y0 x1 y1 t ax ay = some (decide (nearP x0 y0 x1 y1 t ax ay)) := by
  simp only [gatherumlaw38_near.f, qInR, Option.bind_some, nearP]
  by_cases h1 : -1099511627776 ≤ x0 ∧ x0 ≤ 1099511627776 <;> by_cases h2 : -1099511627776 ≤ y0 ∧ y0 ≤ 1099511627776 <;> by_cases h3 : -1099511627776 ≤ x1 ∧ x1 ≤ 1099511627776 <;>
    by_cases h4 : -1099511627776 ≤ y1 ∧ y1 ≤ 1099511627776 <;> by_cases h5 : -1099511627776 ≤ ax ∧ ax ≤ 1099511627776 <;> by_cases h6 : -1099511627776 ≤ ay ∧ ay ≤ 1099511627776 <;> simp [h1, h2, h3, h4, h5, h6]
set_option maxHeartbeats 4000000 in
theorem LayerCuts (a0_0 : Int) (a0_1 : Int) (a0_2 : Int) (a0_3 : Int) (a0_4 : Int) (a0_5 : Int) (a0_6 : Int) (a1 : Bool) (a2 : Int) (w0_0 : (Lit.int .i64 a0_0).wf = true) (w0_1 : (Lit.int .i64 a0_1).wf = true) (w0_2 : (Lit.int .i64 a0_2).wf = true) (w0_3 : (Lit.int .i64 a0_3).wf = true) (w0_4 : (Lit.int .i64 a0_4).wf = true) (w0_5 : (Lit.int .i64 a0_5).wf = true) (w0_6 : (Lit.int .i64 a0_6).wf = true) (w2 : (Lit.int .i64 a2).wf = true) : ∃ K : Nat, gatherumlaw38_LayerCuts.f K a0_0 a0_1 a0_2 a0_3 a0_4 a0_5 a0_6 a1 a2 = some true := by
  refine ⟨50, ?_⟩
  have x0 := R_of w0_0
  have y0 := R_of w0_1
  have x1 := R_of w0_2
  have y1 := R_of w0_3
  have ax := R_of w0_5
  have ay := R_of w0_6
  have rat := R_of w2
  unfold gatherumlaw38_LayerCuts.f
  simp only [alive, Option.bind_some, Bool.not_true, Bool.false_eq_true, if_false, near_eq]
  by_cases hn : nearP a0_0 a0_1 a0_2 a0_3 a0_4 a0_5 a0_6
  · rw [if_neg (by simpa using hn)]
    by_cases he : emp a0_0 a0_1 a0_2 a0_3
    · simp [layer_Cut.f, qbEmpty, q04_Empty, he]
    · have he' := he
      unfold emp at he'
      have hfull := bx_full a0_0 a0_1 a0_2 a0_3 a0_4 a0_5 a0_6 hn (by omega) (by omega)
      have hL := bxm_R a0_4 a0_5 a0_6 a0_0 a0_1 a0_2 a0_3
      have hK := bx_back a0_0 a0_1 a0_2 a0_3 a0_4 a0_5 a0_6
      have kN := q38KeepNo 0 a0_0 a0_1 a0_2 a0_3 a0_4 a0_5 a0_6
      have kY := q38KeepYes 0 a0_0 a0_1 a0_2 a0_3 a0_4 a0_5 a0_6
      simp only [layer_Cut.f, qbEmpty, q04_Empty, he, decide_false, Bool.false_eq_true, if_false, Option.bind_some, layer_Lies.f, qPlaceBox 0 _ _ _ _ _ _ _ x0 y0 x1 y1, gatherumref38_Half.f, gatherumref38_Lies.f, q04_Box 0 _ _ _ _ _ _ _ x0 y0 x1 y1]
      generalize hLe : bxm a0_4 a0_5 a0_6 a0_0 a0_1 a0_2 a0_3 = L at *
      obtain ⟨l0, l1, l2, l3⟩ := L
      simp only at hfull hL kN kY hK ⊢
      have heL : ¬ emp l0 l1 l2 l3 := by unfold emp; omega
      rw [qbSplit l0 l1 l2 l3 a1 a2 heL, Option.bind_some]
      have whole (n : Nat) (hn1 : n = 1) : True := trivial
      have hkw : gatherumref38_Keep.f 50 a0_0 a0_1 a0_2 a0_3 a0_4 a0_5 a0_6 l0 l1 l2 l3 = gatherumref38_Keep.f 50 a0_0 a0_1 a0_2 a0_3 a0_4 a0_5 a0_6 l0 l1 l2 l3 := rfl
      obtain ⟨pw, qw, rw', sw, ew, -, -, -, -, -, -, -⟩ := hK l0 l1 l2 l3 hn (by omega) (by omega) (by omega) (by omega) (by omega) (by omega) (by omega) (by omega)
      have kw := kY l0 l1 l2 l3 l0 l1 l2 l3 x0 y0 x1 y1 ax ay rfl he hfull.1 hfull.2 (by omega) (by omega) (by omega) (by omega) hL.1 hL.2.1 hL.2.2.1 hL.2.2.2 pw qw rw' sw ew
      cases a1
      · simp only [Bool.false_eq_true, if_false]
        by_cases hc : l1 < a2 ∧ a2 < l3
        · rw [if_pos hc, if_pos (show decide (a2 < l3) = true by simpa using hc.2), if_pos (show decide (l1 < a2) = true by simpa using hc.1)]
          obtain ⟨p, q, r, s, e1, e2, b1, b2, b3, b4, b5, b6⟩ := hK l0 l1 l2 a2 hn (by omega) (by omega) (by omega) (by omega) (by omega) (by omega) (by omega) (by omega)
          obtain ⟨p', q', r', s', e1', e2', b1', b2', b3', b4', b5', b6'⟩ := hK l0 a2 l2 l3 hn (by omega) (by omega) (by omega) (by omega) (by omega) (by omega) (by omega) (by omega)
          have k1 := kY l0 l1 l2 l3 l0 l1 l2 a2 x0 y0 x1 y1 ax ay rfl he (by omega) (by omega) (by omega) (by omega) (by omega) (by omega) hL.1 hL.2.1 hL.2.2.1 rat p q r s e1
          have k2 := kY l0 l1 l2 l3 l0 a2 l2 l3 x0 y0 x1 y1 ax ay rfl he (by omega) (by omega) (by omega) (by omega) (by omega) (by omega) hL.1 rat hL.2.2.1 hL.2.2.2 p' q' r' s' e1'
          have hap := bx_apart _ _ _ _ _ _ _ _ _ _ _ _ _ _ _ _ _ _ _ _ _ _ _ hn e2 e2' b1 b2 b3 b4 b5 b6 b1' b2' b3' b4' b5' b6' (Or.inr (Int.le_refl a2))
          have hw : wit p q r s a0_0 a0_1 a0_2 a0_3 := Or.inr ⟨b1, b2, b3, b4⟩
          have hw' : wit p' q' r' s' a0_0 a0_1 a0_2 a0_3 := Or.inr ⟨b1', b2', b3', b4'⟩
          have h0 : emp 0 0 0 0 := by unfold emp; omega
          simp only [Nat.zero_add] at k1 k2
          simp [k1, k2, layer_part.f, qPlaceBack 0 _ _ _ ax ay, qPlaceBox 0 _ _ _ _ _ _ _ hL.1 hL.2.1 hL.2.2.1 rat, qPlaceBox 0 _ _ _ _ _ _ _ hL.1 rat hL.2.2.1 hL.2.2.2, e1, e1', q04_Meet, mt, hap, q04_Empty, h0, q04_Within, hw, hw']
        · rw [if_neg hc]
          by_cases h3 : a2 < l3
          · have k1 := kN l0 l1 l2 l3 l0 l1 l2 a2 x0 y0 x1 y1 rfl he (by unfold emp; omega)
            simp only [Nat.zero_add] at k1 kw
            have h4 : ¬ l1 < a2 := by omega
            simp [h3, h4, k1, kw]
          · have h4 : l1 < a2 := by omega
            have k1 := kN l0 l1 l2 l3 l0 a2 l2 l3 x0 y0 x1 y1 rfl he (by unfold emp; omega)
            simp only [Nat.zero_add] at k1 kw
            simp [h3, h4, k1, kw]
      · simp only [if_true]
        by_cases hc : l0 < a2 ∧ a2 < l2
        · rw [if_pos hc, if_pos (show decide (a2 < l2) = true by simpa using hc.2), if_pos (show decide (l0 < a2) = true by simpa using hc.1)]
          obtain ⟨p, q, r, s, e1, e2, b1, b2, b3, b4, b5, b6⟩ := hK l0 l1 a2 l3 hn (by omega) (by omega) (by omega) (by omega) (by omega) (by omega) (by omega) (by omega)
          obtain ⟨p', q', r', s', e1', e2', b1', b2', b3', b4', b5', b6'⟩ := hK a2 l1 l2 l3 hn (by omega) (by omega) (by omega) (by omega) (by omega) (by omega) (by omega) (by omega)
          have k1 := kY l0 l1 l2 l3 l0 l1 a2 l3 x0 y0 x1 y1 ax ay rfl he (by omega) (by omega) (by omega) (by omega) (by omega) (by omega) hL.1 hL.2.1 rat hL.2.2.2 p q r s e1
          have k2 := kY l0 l1 l2 l3 a2 l1 l2 l3 x0 y0 x1 y1 ax ay rfl he (by omega) (by omega) (by omega) (by omega) (by omega) (by omega) rat hL.2.1 hL.2.2.1 hL.2.2.2 p' q' r' s' e1'
          have hap := bx_apart _ _ _ _ _ _ _ _ _ _ _ _ _ _ _ _ _ _ _ _ _ _ _ hn e2 e2' b1 b2 b3 b4 b5 b6 b1' b2' b3' b4' b5' b6' (Or.inl (Int.le_refl a2))
          have hw : wit p q r s a0_0 a0_1 a0_2 a0_3 := Or.inr ⟨b1, b2, b3, b4⟩
          have hw' : wit p' q' r' s' a0_0 a0_1 a0_2 a0_3 := Or.inr ⟨b1', b2', b3', b4'⟩
          have h0 : emp 0 0 0 0 := by unfold emp; omega
          simp only [Nat.zero_add] at k1 k2
          simp [k1, k2, layer_part.f, qPlaceBack 0 _ _ _ ax ay, qPlaceBox 0 _ _ _ _ _ _ _ hL.1 hL.2.1 rat hL.2.2.2, qPlaceBox 0 _ _ _ _ _ _ _ rat hL.2.1 hL.2.2.1 hL.2.2.2, e1, e1', q04_Meet, mt, hap, q04_Empty, h0, q04_Within, hw, hw']
        · rw [if_neg hc]
          by_cases h3 : a2 < l2
          · have k1 := kN l0 l1 l2 l3 l0 l1 a2 l3 x0 y0 x1 y1 rfl he (by unfold emp; omega)
            simp only [Nat.zero_add] at k1 kw
            have h4 : ¬ l0 < a2 := by omega
            simp [h3, h4, k1, kw]
          · have h4 : l0 < a2 := by omega
            have k1 := kN l0 l1 l2 l3 a2 l1 l2 l3 x0 y0 x1 y1 rfl he (by unfold emp; omega)
            simp only [Nat.zero_add] at k1 kw
            simp [h3, h4, k1, kw]
  · rw [if_pos (by simpa using hn)]
end Go.Proofs.Ythgmjhidigoneaa.PureLayerCuts
