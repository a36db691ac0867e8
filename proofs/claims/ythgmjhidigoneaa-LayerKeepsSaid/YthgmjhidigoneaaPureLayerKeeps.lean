/- The plain law LayerKeeps, over the printed functions: no Go, no memory. -/
import Derived.Test.YthgmjhidigoneaaPLayerKeepsx16
import Derived.Test.YthgmjhidigoneaaAid
namespace Go.Proofs.Ythgmjhidigoneaa.PureLayerKeeps
open Go.RowKit Go.Proofs.Ythgmjhidigoneaa.PLayerKeeps Go.Proofs.YthgmjhidigoneaaW.PrintWords Go.Proofs.YthgmjhidigoneaaW.PrintLast Go.Proofs.YthgmjhidigoneaaW.PrintMore Go.Proofs.Ythgmjhidigoneaa.Aid
set_option linter.unusedVariables false
set_option linter.unusedSimpArgs false

/-! ### rectangles -/
def emp (a b c d : Int) : Prop := a ≥ c ∨ b ≥ d
instance (a b c d : Int) : Decidable (emp a b c d) := by unfold emp; infer_instance
theorem mx_max (a b : Int) : mx a b = max a b := by unfold mx; omega
theorem mn_min (a b : Int) : mn a b = min a b := by unfold mn; omega
theorem Empty_eq (a b c d : Int) : box_Empty.f a b c d = some (decide (emp a b c d)) := by
  unfold box_Empty.f emp
  by_cases h : a ≥ c <;> simp [h]
/-- What two rectangles have both. -/
def mt (a b c d a' b' c' d' : Int) : Int × Int × Int × Int :=
  if emp (max a a') (max b b') (min c c') (min d d') then (0, 0, 0, 0) else (max a a', max b b', min c c', min d d')
theorem Meet_eq (a b c d a' b' c' d' : Int) : box_Meet.f a b c d a' b' c' d' = some (mt a b c d a' b' c' d') := by
  simp only [box_Meet.f, Empty_eq, Option.bind_some, mx_max, mn_min, mt]
  by_cases h : emp (max a a') (max b b') (min c c') (min d d') <;> simp [h]
theorem mt_comm (a b c d a' b' c' d' : Int) : mt a' b' c' d' a b c d = mt a b c d a' b' c' d' := by
  unfold mt
  rw [Int.max_comm a' a, Int.max_comm b' b, Int.min_comm c' c, Int.min_comm d' d]
theorem turn_Do_eq (m : Nat) (t x y : Int) (hx : R x) (hy : R y) : turn_Do.f (m + 20) t x y = some (D t x y) := by
  have h4 : t % 4 = t % 8 % 4 := by omega
  rcases eight t with h | h | h | h | h | h | h | h <;> rw [h] at h4 <;>
    simp [turn_Do.f, turn_Mirrors.f, and4, and3, h, h4, turn_Do.j0, turn_Do.l0, D, wl1, wl2, wl3, wnn hx, wnn hy]
theorem turn_Then_eq (a b : Int) : turn_Then.f a b = some (th a b) := by
  unfold turn_Then.f turn_Mirrors.f th
  simp only [Option.bind_some, xor4, and3, wrap_m4, or34 _ _ (c04 _)]
  simp only [and4]
  by_cases h : b % 8 < 4 <;> simp [h]
theorem turn_Back_eq (a : Int) : turn_Back.f a = some (bk a) := by
  unfold turn_Back.f turn_Mirrors.f bk
  simp only [Option.bind_some, and4, and3, and7, wrap_m4]
  by_cases h : a % 8 < 4 <;> simp [h]
theorem tm4 (x : Int) (h : 0 ≤ x) : Int.tmod x 4 = x % 4 := Int.tmod_eq_emod_of_nonneg h
theorem ref_Of_eq (m : Nat) (t : Int) : gatherumref03_Of.f (m + 20) t = some (M t) := by
  rcases eight t with h | h | h | h | h | h | h | h <;>
    simp [gatherumref03_Of.f, and7, h, gatherumref03_Of.j0, gatherumref03_Of.l0, M, wl0, wl1, wl2, wl3, wm1, tm4]
theorem ref_Do_eq (t x y : Int) (hx : R x) (hy : R y) : gatherumref03_Do.f (M t).1 (M t).2.1 (M t).2.2.1 (M t).2.2.2 x y = some (D t x y) := by
  have h1 : wrap64 x = x := R_id hx
  have h2 : wrap64 y = y := R_id hy
  rcases eight t with h | h | h | h | h | h | h | h <;>
    simp [gatherumref03_Do.f, M, D, h, wl0, h1, h2, wrap_wrap, wnn hx, wnn hy]
theorem ref_Then_eq (a b : Int) : gatherumref03_Then.f (M a).1 (M a).2.1 (M a).2.2.1 (M a).2.2.2 (M b).1 (M b).2.1 (M b).2.2.1 (M b).2.2.2 = some (M (th a b)) := by
  obtain ⟨x, hx⟩ := fin8 a
  obtain ⟨y, hy⟩ := fin8 b
  rw [M_red a, M_red b, th_red a b, hx, hy]
  have key : ∀ x y : Fin 8, gatherumref03_Then.f (M x.1).1 (M x.1).2.1 (M x.1).2.2.1 (M x.1).2.2.2 (M y.1).1 (M y.1).2.1 (M y.1).2.2.1 (M y.1).2.2.2 = some (M (th x.1 y.1)) := by decide +kernel
  exact key x y
theorem place_Do_eq (m : Nat) (t ax ay x y : Int) (hx : R x) (hy : R y) : place_Do.f (m + 20) t ax ay x y = some (wrap64 ((D t x y).1 + ax), wrap64 ((D t x y).2 + ay)) := by
  simp only [place_Do.f, turn_Do_eq m t x y hx hy, Option.bind_some]
theorem place_Back_eq (m : Nat) (t x y : Int) (hx : R x) (hy : R y) : place_Back.f (m + 20) t x y = some (bk t, wrap64 (-(D (bk t) x y).1), wrap64 (-(D (bk t) x y).2)) := by
  simp only [place_Back.f, turn_Back_eq, turn_Do_eq m _ _ _ hx hy, Option.bind_some]
theorem ref04_Do_eq (m : Nat) (t ax ay x y : Int) (hx : R x) (hy : R y) : gatherumref04_Do.f (m + 20) t ax ay x y = some (wrap64 ((D t x y).1 + ax), wrap64 ((D t x y).2 + ay)) := by
  simp only [gatherumref04_Do.f, ref_Of_eq m t, Option.bind_some, ref_Do_eq t x y hx hy]
theorem low_eq (a b : Int) : gatherumref04_low.f a b = some (mn a b) := by
  unfold gatherumref04_low.f mn
  by_cases h : a < b
  · rw [if_pos h, if_neg (by omega)]
  · rw [if_neg h]; by_cases h' : b < a
    · rw [if_pos h']
    · rw [if_neg h']; congr 1; omega
theorem high_eq (a b : Int) : gatherumref04_high.f a b = some (mx a b) := by
  unfold gatherumref04_high.f mx
  by_cases h : a > b
  · rw [if_pos h, if_neg (by omega)]
  · rw [if_neg h]; by_cases h' : a < b
    · rw [if_pos h']
    · rw [if_neg h']; congr 1; omega
/-! ### where a rectangle is brought -/
def bx (t ax ay x0 y0 x1 y1 : Int) : Int × Int × Int × Int :=
  (min (wrap64 ((D t x0 y0).1 + ax)) (wrap64 ((D t x1 y1).1 + ax)), min (wrap64 ((D t x0 y0).2 + ay)) (wrap64 ((D t x1 y1).2 + ay)), max (wrap64 ((D t x0 y0).1 + ax)) (wrap64 ((D t x1 y1).1 + ax)), max (wrap64 ((D t x0 y0).2 + ay)) (wrap64 ((D t x1 y1).2 + ay)))
theorem mx_max' (a b : Int) : mx a b = max a b := by unfold mx; omega
theorem mn_min' (a b : Int) : mn a b = min a b := by unfold mn; omega
theorem place_Box_eq (m : Nat) (t ax ay x0 y0 x1 y1 : Int) (h0 : R x0) (h1 : R y0) (h2 : R x1) (h3 : R y1) : place_Box.f (m + 20) t ax ay x0 y0 x1 y1 = some (bx t ax ay x0 y0 x1 y1) := by
  simp only [place_Box.f, place_Do_eq m _ _ _ _ _ h0 h1, place_Do_eq m _ _ _ _ _ h2 h3, Option.bind_some, mx_max', mn_min', bx]
theorem ref04_Box_eq (m : Nat) (t ax ay x0 y0 x1 y1 : Int) (h0 : R x0) (h1 : R y0) (h2 : R x1) (h3 : R y1) : gatherumref04_Box.f (m + 20) t ax ay x0 y0 x1 y1 = some (bx t ax ay x0 y0 x1 y1) := by
  simp only [gatherumref04_Box.f, ref04_Do_eq m _ _ _ _ _ h0 h1, ref04_Do_eq m _ _ _ _ _ h2 h3, low_eq, high_eq, Option.bind_some, mx_max', mn_min', bx]
theorem refEmpty_eq (a b c d : Int) : gatherumref04_Empty.f a b c d = some (decide (emp a b c d)) := by
  unfold gatherumref04_Empty.f emp
  by_cases h : a ≥ c <;> simp [h]
theorem refMeet_eq (a b c d a' b' c' d' : Int) : gatherumref04_Meet.f a b c d a' b' c' d' = some (mt a b c d a' b' c' d') := by
  simp only [gatherumref04_Meet.f, low_eq, high_eq, refEmpty_eq, Option.bind_some, mx_max, mn_min, mt]
  by_cases h : emp (max a a') (max b b') (min c c') (min d d') <;> simp [h]
def wit (a b c d a' b' c' d' : Int) : Prop := emp a b c d ∨ (a' ≤ a ∧ c ≤ c' ∧ b' ≤ b ∧ d ≤ d')
instance (a b c d a' b' c' d' : Int) : Decidable (wit a b c d a' b' c' d') := by unfold wit; infer_instance
theorem refWithin_eq (a b c d a' b' c' d' : Int) : gatherumref04_Within.f a b c d a' b' c' d' = some (decide (wit a b c d a' b' c' d')) := by
  simp only [gatherumref04_Within.f, refEmpty_eq, Option.bind_some, wit]
  by_cases h : emp a b c d <;> by_cases h1 : a' ≤ a <;> by_cases h2 : c ≤ c' <;> by_cases h3 : b' ≤ b <;> simp [h, h1, h2, h3]
theorem th_least (t i : Int) (h0 : 0 ≤ i) (h : i < bk t) : th t i ≠ 0 := by
  obtain ⟨x, hx⟩ := fin8 t
  have hb := bk_bounds t
  rw [bk_red, hx] at h hb
  obtain ⟨n, rfl⟩ : ∃ n : Fin 8, i = (n.1 : Int) := ⟨⟨i.toNat, by omega⟩, by simp; omega⟩
  rw [th_red, hx]
  have key : ∀ x n : Fin 8, (n.1 : Int) < bk x.1 → th x.1 ((n.1 : Int) % 8) ≠ 0 := by decide +kernel
  exact key x n h
theorem M_zero (a : Int) : ((M a).1 == (M 0).1 && ((M a).2.1 == (M 0).2.1 && ((M a).2.2.1 == (M 0).2.2.1 && ((M a).2.2.2 == (M 0).2.2.2)))) = decide (a % 8 = 0) := by
  obtain ⟨x, hx⟩ := fin8 a
  rw [M_red a, hx]
  have key : ∀ x : Fin 8, ((M x.1).1 == (M 0).1 && ((M x.1).2.1 == (M 0).2.1 && ((M x.1).2.2.1 == (M 0).2.2.1 && ((M x.1).2.2.2 == (M 0).2.2.2)))) = decide ((x.1 : Int) = 0) := by decide +kernel
  exact key x
theorem ref04_Back_loop (t x y : Int) (hx : R x) (hy : R y) (d : Nat) : ∀ (k : Nat) (i : Int), 0 ≤ i → i ≤ bk t → bk t - i = d → gatherumref04_Back.l0 (k + d + 21) i t x y = some (bk t, wrap64 (-(D (bk t) x y).1), wrap64 (-(D (bk t) x y).2)) := by
  have hb := bk_bounds t
  induction d with
  | zero =>
    intro k i h0 h1 hd
    obtain rfl : i = bk t := by omega
    have ht : th t (bk t) = 0 := (th_back t).1
    simp only [gatherumref04_Back.l0, Nat.add_zero, ref_Of_eq k, ref_Then_eq, Option.bind_some, M_zero, ht, Int.zero_emod, decide_true, if_true, ref_Do_eq _ _ _ hx hy]
    rw [if_pos (by omega)]
  | succ d ih =>
    intro k i h0 h1 hd
    have hne : th t i % 8 ≠ 0 := by have := th_bounds t i; have := th_least t i h0 (by omega); omega
    rw [show k + (d + 1) + 21 = (k + d + 21) + 1 by omega]
    simp only [gatherumref04_Back.l0, ref_Of_eq (k + d + 1), ref_Then_eq, Option.bind_some, M_zero, decide_eq_false hne, Bool.false_eq_true, if_false]
    rw [if_pos (by omega), wrap_id (by omega) (by omega)]
    exact ih k (i + 1) (by omega) (by omega) (by omega)
theorem ref04_Back_eq (m : Nat) (t x y : Int) (hx : R x) (hy : R y) : gatherumref04_Back.f (m + 40) t x y = some (bk t, wrap64 (-(D (bk t) x y).1), wrap64 (-(D (bk t) x y).2)) := by
  have hb := bk_bounds t
  have h := ref04_Back_loop t x y hx hy (bk t).toNat (m + 19 - (bk t).toNat) 0 (by omega) hb.1 (by omega)
  rw [show m + 19 - (bk t).toNat + (bk t).toNat + 21 = m + 40 by omega] at h
  exact h
theorem refIn_eq (a b c : Int) : gatherumref01_In.f a b c = some (decide (b ≤ a ∧ a ≤ c)) := by
  unfold gatherumref01_In.f
  by_cases h : a ≥ b <;> simp [h]
def nearP (x0 y0 x1 y1 t ax ay : Int) : Prop := (-1099511627776 ≤ x0 ∧ x0 ≤ 1099511627776) ∧ (-1099511627776 ≤ y0 ∧ y0 ≤ 1099511627776) ∧ (-1099511627776 ≤ x1 ∧ x1 ≤ 1099511627776) ∧ (-1099511627776 ≤ y1 ∧ y1 ≤ 1099511627776) ∧ (-1099511627776 ≤ ax ∧ ax ≤ 1099511627776) ∧ (-1099511627776 ≤ ay ∧ ay ≤ 1099511627776) ∧ 0 ≤ t ∧ t ≤ 7
instance (x0 y0 x1 y1 t ax ay : Int) : Decidable (nearP x0 y0 x1 y1 t ax ay) := by unfold nearP; infer_instance
theorem eightv (t : Int) (h : 0 ≤ t ∧ t ≤ 7) : t = 0 ∨ t = 1 ∨ t = 2 ∨ t = 3 ∨ t = 4 ∨ t = 5 ∨ t = 6 ∨ t = 7 := by omega
theorem wS {x : Int} (h : -1000000000000000000 ≤ x ∧ x ≤ 1000000000000000000) : wrap64 x = x := wrap_id (by omega) (by omega)
set_option maxHeartbeats 4000000 in
/-- What lies within where a near rectangle lies, is brought back into the rectangle, and from there to where it was. -/
theorem bx_back (x0 y0 x1 y1 t ax ay a b c d : Int) (hn : nearP x0 y0 x1 y1 t ax ay) (hx : x0 < x1) (hy : y0 < y1) (hab : a < c) (hcd : b < d)
    (l0 : (bx t ax ay x0 y0 x1 y1).1 ≤ a) (l1 : (bx t ax ay x0 y0 x1 y1).2.1 ≤ b) (l2 : c ≤ (bx t ax ay x0 y0 x1 y1).2.2.1) (l3 : d ≤ (bx t ax ay x0 y0 x1 y1).2.2.2) :
    ∃ p q r s, bx (bk t) (wrap64 (-(D (bk t) ax ay).1)) (wrap64 (-(D (bk t) ax ay).2)) a b c d = (p, q, r, s) ∧ bx t ax ay p q r s = (a, b, c, d) ∧ x0 ≤ p ∧ r ≤ x1 ∧ y0 ≤ q ∧ s ≤ y1 ∧ p < r ∧ q < s := by
  obtain ⟨⟨h1, h2⟩, ⟨h3, h4⟩, ⟨h5, h6⟩, ⟨h7, h8⟩, ⟨h9, h10⟩, ⟨h11, h12⟩, h13⟩ := hn
  have r1 : wrap64 (-x0) = -x0 := wS (by omega)
  have r2 : wrap64 (-y0) = -y0 := wS (by omega)
  have r3 : wrap64 (-x1) = -x1 := wS (by omega)
  have r4 : wrap64 (-y1) = -y1 := wS (by omega)
  have r5 : wrap64 (-ax) = -ax := wS (by omega)
  have r6 : wrap64 (-ay) = -ay := wS (by omega)
  rcases eightv t h13 with rfl | rfl | rfl | rfl | rfl | rfl | rfl | rfl
  all_goals
    simp only [bx, D, bk, Int.reduceMod, Int.reduceNeg, Int.reduceLT, Int.reduceEq, if_true, if_false, r1, r2, r3, r4, r5, r6] at l0 l1 l2 l3 ⊢
    simp (disch := omega) only [wS, Int.neg_neg] at l0 l1 l2 l3
    have ha : -10000000000000 ≤ a ∧ a ≤ 10000000000000 := by omega
    have hb : -10000000000000 ≤ b ∧ b ≤ 10000000000000 := by omega
    have hc : -10000000000000 ≤ c ∧ c ≤ 10000000000000 := by omega
    have hd : -10000000000000 ≤ d ∧ d ≤ 10000000000000 := by omega
    refine ⟨_, _, _, _, rfl, ?_⟩
    simp (disch := omega) only [wS, Int.neg_neg, Prod.mk.injEq]
    refine ⟨⟨?_, ?_, ?_, ?_⟩, ?_, ?_, ?_, ?_, ?_, ?_⟩ <;> omega
theorem alive60 : gatherumlaw38_alive.f 60 = some true := by decide +kernel
theorem near_eq (x0 y0 x1 y1 t ax ay : Int) : gatherumlaw38_near.f x0 y0 x1 y1 t ax ay = some (decide (nearP x0 y0 x1 y1 t ax ay)) := by
  simp only [gatherumlaw38_near.f, refIn_eq, Option.bind_some, nearP]
  by_cases h1 : -1099511627776 ≤ x0 ∧ x0 ≤ 1099511627776 <;> by_cases h2 : -1099511627776 ≤ y0 ∧ y0 ≤ 1099511627776 <;> by_cases h3 : -1099511627776 ≤ x1 ∧ x1 ≤ 1099511627776 <;>
    by_cases h4 : -1099511627776 ≤ y1 ∧ y1 ≤ 1099511627776 <;> by_cases h5 : -1099511627776 ≤ ax ∧ ax ≤ 1099511627776 <;> by_cases h6 : -1099511627776 ≤ ay ∧ ay ≤ 1099511627776 <;> simp [h1, h2, h3, h4, h5, h6]
theorem R_max {a b : Int} (h : R a) (h' : R b) : R (max a b) := ⟨by have := h.1; omega, by have := h.2; have := h'.2; omega⟩
theorem R_min {a b : Int} (h : R a) (h' : R b) : R (min a b) := ⟨by have := h.1; have := h'.1; omega, by have := h.2; omega⟩
theorem bx_R (t ax ay x0 y0 x1 y1 : Int) : R (bx t ax ay x0 y0 x1 y1).1 ∧ R (bx t ax ay x0 y0 x1 y1).2.1 ∧ R (bx t ax ay x0 y0 x1 y1).2.2.1 ∧ R (bx t ax ay x0 y0 x1 y1).2.2.2 :=
  ⟨R_min (R_wrap _) (R_wrap _), R_min (R_wrap _) (R_wrap _), R_max (R_wrap _) (R_wrap _), R_max (R_wrap _) (R_wrap _)⟩
theorem LayerKeeps (a0_0 : Int) (a0_1 : Int) (a0_2 : Int) (a0_3 : Int) (a0_4 : Int) (a0_5 : Int) (a0_6 : Int) (a1_0 : Int) (a1_1 : Int) (a1_2 : Int) (a1_3 : Int) (w0_0 : (Lit.int .i64 a0_0).wf = true) (w0_1 : (Lit.int .i64 a0_1).wf = true) (w0_2 : (Lit.int .i64 a0_2).wf = true) (w0_3 : (Lit.int .i64 a0_3).wf = true) (w0_4 : (Lit.int .i64 a0_4).wf = true) (w0_5 : (Lit.int .i64 a0_5).wf = true) (w0_6 : (Lit.int .i64 a0_6).wf = true) (w1_0 : (Lit.int .i64 a1_0).wf = true) (w1_1 : (Lit.int .i64 a1_1).wf = true) (w1_2 : (Lit.int .i64 a1_2).wf = true) (w1_3 : (Lit.int .i64 a1_3).wf = true) : ∃ k, gatherumlaw38_LayerKeeps.f k a0_0 a0_1 a0_2 a0_3 a0_4 a0_5 a0_6 a1_0 a1_1 a1_2 a1_3 = some true := by
  have x0 := R_of w0_0
  have y0 := R_of w0_1
  have x1 := R_of w0_2
  have y1 := R_of w0_3
  have ax := R_of w0_5
  have ay := R_of w0_6
  refine ⟨60, ?_⟩
  simp only [gatherumlaw38_LayerKeeps.f, alive60, Option.bind_some, if_true, near_eq]
  by_cases hn : nearP a0_0 a0_1 a0_2 a0_3 a0_4 a0_5 a0_6
  · rw [if_pos (decide_eq_true hn)]
    have hL := bx_R a0_4 a0_5 a0_6 a0_0 a0_1 a0_2 a0_3
    have hK := bx_back a0_0 a0_1 a0_2 a0_3 a0_4 a0_5 a0_6
    simp only [layer_Keep.f, gatherumref38_Keep.f, layer_Lies.f, gatherumref38_Lies.f, place_Box_eq 40 _ _ _ _ _ _ _ x0 y0 x1 y1, ref04_Box_eq 40 _ _ _ _ _ _ _ x0 y0 x1 y1, Option.bind_some, Meet_eq, refMeet_eq, Empty_eq, refEmpty_eq]
    generalize hLe : bx a0_4 a0_5 a0_6 a0_0 a0_1 a0_2 a0_3 = L at *
    obtain ⟨l0, l1, l2, l3⟩ := L
    by_cases he : emp a0_0 a0_1 a0_2 a0_3
    · simp [he, gatherumref38_Keep.j0, gatherumlaw38_LayerKeeps.j0]
    · by_cases hm : emp (max l0 a1_0) (max l1 a1_1) (min l2 a1_2) (min l3 a1_3)
      · have hmt : mt l0 l1 l2 l3 a1_0 a1_1 a1_2 a1_3 = (0, 0, 0, 0) := by unfold mt; rw [if_pos hm]
        have h0 : emp 0 0 0 0 := by unfold emp; omega
        simp [he, hmt, h0, gatherumref38_Keep.j0, gatherumlaw38_LayerKeeps.j0]
      · have hmt : mt l0 l1 l2 l3 a1_0 a1_1 a1_2 a1_3 = (max l0 a1_0, max l1 a1_1, min l2 a1_2, min l3 a1_3) := by unfold mt; rw [if_neg hm]
        have m0 : R (max l0 a1_0) := R_max hL.1 (R_of w1_0)
        have m1 : R (max l1 a1_1) := R_max hL.2.1 (R_of w1_1)
        have m2 : R (min l2 a1_2) := R_min hL.2.2.1 (R_of w1_2)
        have m3 : R (min l3 a1_3) := R_min hL.2.2.2 (R_of w1_3)
        have he' := he
        have hm' := hm
        unfold emp at he' hm'
        obtain ⟨p, q, r, s, e1, e2, b1, b2, b3, b4, b5, b6⟩ := hK (max l0 a1_0) (max l1 a1_1) (min l2 a1_2) (min l3 a1_3) hn (by omega) (by omega) (by omega) (by omega) (by simp only; omega) (by simp only; omega) (by simp only; omega) (by simp only; omega)
        obtain ⟨rp, rq, rr, rs⟩ := bx_R (bk a0_4) (wrap64 (-(D (bk a0_4) a0_5 a0_6).1)) (wrap64 (-(D (bk a0_4) a0_5 a0_6).2)) (max l0 a1_0) (max l1 a1_1) (min l2 a1_2) (min l3 a1_3)
        rw [e1] at rp rq rr rs
        have hw : wit p q r s a0_0 a0_1 a0_2 a0_3 := Or.inr ⟨b1, b2, b3, b4⟩
        simp only [he, hm, hmt, decide_false, Bool.false_eq_true, if_false, layer_part.f, gatherumref38_Keep.j0, place_Back_eq 40 _ _ _ ax ay, ref04_Back_eq 19 _ _ _ ax ay, Option.bind_some, place_Box_eq 40 _ _ _ _ _ _ _ m0 m1 m2 m3, ref04_Box_eq 39 _ _ _ _ _ _ _ m0 m1 m2 m3, e1,
          beq_self_eq_true, Bool.not_true, Bool.or_false, bne_self_eq_false]
        simp only [gatherumlaw38_LayerKeeps.j0, Bool.false_eq_true, if_false, if_true, gatherumref38_Lies.f, ref04_Box_eq 39 _ _ _ _ _ _ _ x0 y0 x1 y1, ref04_Box_eq 39 _ _ _ p q r s rp rq rr rs, Option.bind_some, e2, hLe, refMeet_eq, hmt, beq_self_eq_true, Bool.and_self, refWithin_eq, hw, decide_true]
  · rw [if_neg (by simpa using hn)]
end Go.Proofs.Ythgmjhidigoneaa.PureLayerKeeps
