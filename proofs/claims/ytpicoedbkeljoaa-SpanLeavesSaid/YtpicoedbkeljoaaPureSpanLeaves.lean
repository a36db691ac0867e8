/- The plain law SpanLeaves, over the functions that the executor tells: no Go, no memory. -/
import Derived.Test.YtpicoedbkeljoaaXSpanLeaves
import Derived.Test.YtpicoedbkeljoaaAid
namespace Go.Proofs.Ytpicoedbkeljoaa.PureSpanLeaves
open Go Go.RowKit Go.Proofs.Ytpicoedbkeljoaa.Sy Go.Proofs.Ytpicoedbkeljoaa.XSpanLeaves Go.Proofs.Ytpicoedbkeljoaa.Aid
set_option linter.unusedVariables false
set_option linter.unusedSimpArgs false

set_option maxRecDepth 100000
/-! ### words of the plain laws -/
def emp (a b c d : Int) : Prop := c ≤ a ∨ d ≤ b
instance (a b c d : Int) : Decidable (emp a b c d) := by unfold emp; infer_instance
/-- A rectangle, brought by a place. -/
def bxm (t ax ay a b c d : Int) : Int × Int × Int × Int :=
  (min (wrap64 ((D t a b).1 + ax)) (wrap64 ((D t c d).1 + ax)), min (wrap64 ((D t a b).2 + ay)) (wrap64 ((D t c d).2 + ay)), max (wrap64 ((D t a b).1 + ax)) (wrap64 ((D t c d).1 + ax)), max (wrap64 ((D t a b).2 + ay)) (wrap64 ((D t c d).2 + ay)))
/-- How many plates a sheet has; how it is turned over; where may be printed; where a block may be. -/
def plt (s : Int) : Int := if s = 1 ∨ s = 2 then 2 else if s = 3 ∨ s = 4 then 1 else 0
def flp (s w h : Int) : Int × Int × Int := if plt s = 0 then (0, 0, 0) else if s = 2 ∨ s = 4 then (6, 0, h) else (4, w, 0)
def are (s w h side g t : Int) : Int × Int × Int × Int := if plt s = 0 then (0, 0, 0, 0) else if s = 2 ∨ s = 4 then (side, max g t, wrap64 (w - side), wrap64 (h - max g t)) else (side, g, wrap64 (w - side), wrap64 (h - t))
def reg (s w h : Int) (a : Int × Int × Int × Int) : Int × Int × Int × Int := if s = 3 then (a.1, a.2.1, min a.2.2.1 (w / 2), a.2.2.2) else if s = 4 then (a.1, a.2.1, a.2.2.1, min a.2.2.2 (h / 2)) else a
theorem plt_zero (s : Int) : plt s = 0 ↔ s < 1 ∨ s > 4 := by
  unfold plt
  by_cases h1 : s = 1 ∨ s = 2
  · rw [if_pos h1]; omega
  · rw [if_neg h1]; by_cases h2 : s = 3 ∨ s = 4
    · rw [if_pos h2]; omega
    · rw [if_neg h2]; omega
theorem min_R {a b : Int} (ha : R a) (hb : R b) : R (min a b) := by unfold R at *; omega
theorem max_R {a b : Int} (ha : R a) (hb : R b) : R (max a b) := by unfold R at *; omega
theorem are_R {s w h side g t : Int} (h1 : R side) (h2 : R g) (h3 : R t) : R (are s w h side g t).1 ∧ R (are s w h side g t).2.1 ∧ R (are s w h side g t).2.2.1 ∧ R (are s w h side g t).2.2.2 := by
  unfold are
  have h0 : R 0 := by unfold R; omega
  split
  · exact ⟨h0, h0, h0, h0⟩
  · split
    · exact ⟨h1, max_R h2 h3, R_wrap _, R_wrap _⟩
    · exact ⟨h1, h2, R_wrap _, R_wrap _⟩
theorem mni_eq (a b : Int) : mni a b = min a b := by unfold mni; split <;> omega
theorem mxi_eq (a b : Int) : mxi a b = max a b := by unfold mxi; split <;> omega
/-- A panel's size. -/
def psz (a b c x y z : Int) : Int × Int := (wrap64 (wrap64 (c + a) + b), wrap64 (wrap64 (z + x) + y))
def mt (a b c d a' b' c' d' : Int) : Int × Int × Int × Int := if emp (max a a') (max b b') (min c c') (min d d') then (0, 0, 0, 0) else (max a a', max b b', min c c', min d d')
def wit (a b c d a' b' c' d' : Int) : Prop := emp a b c d ∨ (a' ≤ a ∧ c ≤ c' ∧ b' ≤ b ∧ d ≤ d')
instance (a b c d a' b' c' d' : Int) : Decidable (wit a b c d a' b' c' d') := by unfold wit; infer_instance
/-- What a job's numbers may be. -/
def B15 (j0 : ByteArray) (j1 j2 j3 j4 j5 j6 j7 j8 j9 j10 j11 j12 j13 : Int) (j14 j15 : Ov) (j16 j17 j18 j19 j20 j21 j22 j23 j24 j25 j26 j27 j28 j29 j30 j31 j32 : Int) : Prop := (1 ≤ j1 ∧ j1 ≤ 100000) ∧ (-5000000 ≤ j2 ∧ j2 ≤ 5000000) ∧ (-5000000 ≤ j3 ∧ j3 ≤ 5000000) ∧ (1 ≤ j4 ∧ j4 ≤ 5000000) ∧ (1 ≤ j5 ∧ j5 ≤ 5000000) ∧ (0 ≤ j6 ∧ j6 ≤ 5000000) ∧ (0 ≤ j7 ∧ j7 ≤ 5000000) ∧ (0 ≤ j8 ∧ j8 ≤ 5000000) ∧ (0 ≤ j9 ∧ j9 ≤ 5000000) ∧ (0 ≤ j10 ∧ j10 ≤ 5000000) ∧ (1 ≤ j11 ∧ j11 ≤ 4) ∧ (1 ≤ j16 ∧ j16 ≤ 4) ∧ (1 ≤ j17 ∧ j17 ≤ 5000000) ∧ (1 ≤ j18 ∧ j18 ≤ 5000000) ∧ (0 ≤ j19 ∧ j19 ≤ 5000000) ∧ (0 ≤ j20 ∧ j20 ≤ 5000000) ∧ (0 ≤ j21 ∧ j21 ≤ 5000000) ∧ (0 ≤ j22 ∧ j22 ≤ 100000) ∧ (0 ≤ j23 ∧ j23 ≤ 1000) ∧ (1 ≤ j24 ∧ j24 ≤ 1000) ∧ (0 ≤ j25 ∧ j25 ≤ 3) ∧ (0 ≤ j26 ∧ j26 ≤ 5000000) ∧ (0 ≤ j27 ∧ j27 ≤ 5000000) ∧ (0 ≤ j28 ∧ j28 ≤ 5000000) ∧ (0 ≤ j29 ∧ j29 ≤ 5000000) ∧ (0 ≤ j30 ∧ j30 ≤ 5000000) ∧ (1 ≤ j31 ∧ j31 ≤ 1000) ∧ (0 ≤ j32 ∧ j32 ≤ 5000000)
theorem pdec {p : Prop} [Decidable p] (h : p) : ¬ ((!decide p) = true) := by simp [h]
theorem ndec {p : Prop} [Decidable p] (h : ¬ p) : (!decide p) = true := by simp [h]
theorem qEmp (a b : Int) : gatherumlaw03_empty.f a b = some (decide (b ≤ a)) := rfl
theorem qHas (a b n : Int) : gatherumlaw03_has.f a b n = some (decide (a ≤ n ∧ n < b)) := by
  unfold gatherumlaw03_has.f
  by_cases h : a ≤ n <;> simp [h]
theorem alive : gatherumlaw03_alive.f (0 + 50) = some true := by
  have : span_Minus.f 50 0 5 2 3 = some [(0, 2), (3, 5)] := by
    simp [span_Minus.f, span_Empty.f, span_some.f, mni, mxi]
  simp [gatherumlaw03_alive.f, this, span_Has.f]
theorem cap_ge : (100000 : Int) ≤ cap8796093022208 := by unfold cap8796093022208; omega
theorem w1 : wrap64 (0 + 1) = 1 := wl1
theorem w2 : wrap64 (1 + 1) = 2 := wl2
theorem cutNone (K : Nat) (lo hi : Int) : span_Cut.f (K + 50) lo hi [] = some (if hi ≤ lo then [] else [(lo, hi)]) := by
  unfold span_Cut.f span_Empty.f
  by_cases h : hi ≤ lo
  · simp [h]
  · rw [Option.bind_some, if_neg (by simpa using h), if_neg h, show xcli [] = some [] by simp [xcli], Option.bind_some, show xsti [] = some [] by simp [xsti], Option.bind_some, span_Cut.l0, if_neg (by simp)]
    have h1 := cap_ge
    rw [if_pos (by simp only [List.length_nil]; generalize cap8796093022208 = C at *; exact decide_eq_true (by omega))]
    rfl
/-- What is left of a span. -/
def lv (a b : Int × Int) : List (Int × Int) :=
  if b.2 ≤ b.1 then (if a.2 ≤ a.1 then [] else [a]) else
    (if min a.2 b.1 ≤ a.1 then [] else [(a.1, min a.2 b.1)]) ++ (if a.2 ≤ max a.1 b.2 then [] else [(max a.1 b.2, a.2)])
theorem someNZ (lo hi : Int) (h : lo < hi) : ((lo == 0) && (hi == 0)) = false := by
  by_cases h1 : lo = 0
  · by_cases h2 : hi = 0
    · omega
    · simp [h2]
  · simp [h1]
theorem qMinus (K : Nat) (a0 a1 b0 b1 : Int) : span_Minus.f (K + 50) a0 a1 b0 b1 = some (lv (a0, a1) (b0, b1)) := by
  unfold span_Minus.f span_Empty.f lv
  by_cases h : b1 ≤ b0
  · rw [Option.bind_some, if_pos (by simpa using h), if_pos h, cutNone, Option.bind_some]
  · rw [Option.bind_some, if_neg (by simpa using h), if_neg h]
    simp only [span_some.f, mni_eq, mxi_eq]
    by_cases h1 : min a1 b0 ≤ a0
    · by_cases h2 : a1 ≤ max a0 b1
      · simp [h1, h2]
      · simp [h1, h2]
        intro z1 z2; omega
    · have n1 := someNZ a0 (min a1 b0) (by omega)
      by_cases h2 : a1 ≤ max a0 b1
      · simp only [h1, h2, decide_true, decide_false, Bool.false_eq_true, if_true, if_false, Option.bind_some, n1, Bool.not_false, List.append_nil]
        simp
      · have n2 := someNZ (max a0 b1) a1 (by omega)
        simp only [h1, h2, decide_true, decide_false, Bool.false_eq_true, if_true, if_false, Option.bind_some, n1, n2, Bool.not_false]
        rfl
set_option maxHeartbeats 4000000 in
theorem fin1 (a0 a1 b0 b1 n p q : Int) (hp : R p) (hq : R q) (h1 : p < q) (h2 : a0 ≤ p) (h3 : q ≤ a1) (e1 : ¬ (b0 ≤ p ∧ p < b1)) (e2 : ¬ (b0 ≤ q - 1 ∧ q - 1 < b1)) (hm : (p ≤ n ∧ n < q) ↔ ((a0 ≤ n ∧ n < a1) ∧ ¬ (b0 ≤ n ∧ n < b1))) (hM : span_Minus.f (0 + 50) a0 a1 b0 b1 = some [(p, q)]) : gatherumlaw03_SpanLeaves.f (0 + 50) a0 a1 b0 b1 n = some true := by
  have hw : wrap64 (q - 1) = q - 1 := wrap_id (by unfold R at hp; omega) (by unfold R at hq; omega)
  have r1 : gatherumlaw03_rising.f (0 + 50) [(p, q)] a0 a1 = some true := by
    unfold gatherumlaw03_rising.f
    rw [gatherumlaw03_rising.l0, if_pos (by first | decide | simp), if_pos (by first | decide | simp), show (0 : Int).toNat = 0 from rfl, List.getElem?_cons_zero, Option.bind_some, qEmp, Option.bind_some, if_neg (by simp; omega), if_neg (by simp; omega), if_neg (by simp; omega), if_neg (by first | decide | simp), w1, gatherumlaw03_rising.l0, if_neg (by first | decide | simp)]
  unfold gatherumlaw03_SpanLeaves.f
  rw [alive, Option.bind_some, if_neg (by first | decide | simp), hM, Option.bind_some, r1, Option.bind_some, if_neg (by first | decide | simp), if_neg (by first | decide | simp), if_neg (by first | decide | simp)]
  rw [gatherumlaw03_SpanLeaves.l2, if_pos (by first | decide | simp), if_neg (by first | decide | simp), if_pos (by first | decide | simp), show (0 : Int).toNat = 0 from rfl, List.getElem?_cons_zero, Option.bind_some, qHas, Option.bind_some, w1, gatherumlaw03_SpanLeaves.l2, if_neg (by first | decide | simp)]
  rw [gatherumlaw03_SpanLeaves.l3, if_pos (by first | decide | simp), if_pos rfl, if_pos (by first | decide | simp), show (0 : Int).toNat = 0 from rfl, List.getElem?_cons_zero, Option.bind_some, qHas, Option.bind_some, if_pos (by rw [decide_eq_false e1]; rfl), qHas, Option.bind_some, w1, hw, gatherumlaw03_SpanLeaves.l3, if_neg (by first | decide | simp), qHas, Option.bind_some, qHas, decide_eq_false e2]
  by_cases g : a0 ≤ n ∧ n < a1
  · by_cases g2 : b0 ≤ n ∧ n < b1
    · simp [g, g2, hm]
    · simp [g, g2, hm]
  · simp [g, hm]
set_option maxHeartbeats 4000000 in
theorem fin0 (a0 a1 b0 b1 n : Int) (hm : ¬ ((a0 ≤ n ∧ n < a1) ∧ ¬ (b0 ≤ n ∧ n < b1))) (hM : span_Minus.f (0 + 50) a0 a1 b0 b1 = some []) : gatherumlaw03_SpanLeaves.f (0 + 50) a0 a1 b0 b1 n = some true := by
  have r1 : gatherumlaw03_rising.f (0 + 50) [] a0 a1 = some true := by
    unfold gatherumlaw03_rising.f
    rw [gatherumlaw03_rising.l0, if_neg (by decide)]
  unfold gatherumlaw03_SpanLeaves.f
  rw [alive, Option.bind_some, if_neg (by decide), hM, Option.bind_some, r1, Option.bind_some, if_neg (by decide), if_neg (by decide), if_neg (by decide)]
  rw [gatherumlaw03_SpanLeaves.l2, if_neg (by decide), gatherumlaw03_SpanLeaves.l3, if_neg (by decide), qHas, Option.bind_some, qHas]
  by_cases g : a0 ≤ n ∧ n < a1
  · by_cases g2 : b0 ≤ n ∧ n < b1
    · simp [g, g2]
    · exact absurd ⟨g, g2⟩ hm
  · simp [g]
set_option maxHeartbeats 4000000 in
theorem fin2 (a0 a1 b0 b1 n p q r s : Int) (hp : R p) (hq : R q) (hr : R r) (hs : R s) (h1 : p < q) (h2 : a0 ≤ p) (h3 : q ≤ a1) (h4 : q < r) (h5 : r < s) (h6 : s ≤ a1) (e1 : ¬ (b0 ≤ p ∧ p < b1)) (e2 : ¬ (b0 ≤ q - 1 ∧ q - 1 < b1)) (e3 : ¬ (b0 ≤ r ∧ r < b1)) (e4 : ¬ (b0 ≤ s - 1 ∧ s - 1 < b1))
    (hm : ((p ≤ n ∧ n < q) ∨ (r ≤ n ∧ n < s)) ↔ ((a0 ≤ n ∧ n < a1) ∧ ¬ (b0 ≤ n ∧ n < b1))) (hM : span_Minus.f (0 + 50) a0 a1 b0 b1 = some [(p, q), (r, s)]) : gatherumlaw03_SpanLeaves.f (0 + 50) a0 a1 b0 b1 n = some true := by
  have hw : wrap64 (q - 1) = q - 1 := wrap_id (by unfold R at hp; omega) (by unfold R at hq; omega)
  have hw2 : wrap64 (s - 1) = s - 1 := wrap_id (by unfold R at hr; omega) (by unfold R at hs; omega)
  have i1 : (1 : Int).toNat = 1 := rfl
  have i0 : (0 : Int).toNat = 0 := rfl
  have w0 : wrap64 (1 - 1) = 0 := wl0
  have r1 : gatherumlaw03_rising.f (0 + 50) [(p, q), (r, s)] a0 a1 = some true := by
    unfold gatherumlaw03_rising.f
    rw [gatherumlaw03_rising.l0, if_pos (by first | decide | simp), if_pos (by first | decide | simp), i0, List.getElem?_cons_zero, Option.bind_some, qEmp, Option.bind_some, if_neg (by simp; omega), if_neg (by simp; omega), if_neg (by simp; omega), if_neg (by first | decide | simp), w1]
    rw [gatherumlaw03_rising.l0, if_pos (by first | decide | simp), if_pos (by first | decide | simp), i1, List.getElem?_cons_succ, List.getElem?_cons_zero, Option.bind_some, qEmp, Option.bind_some, if_neg (by simp; omega), if_neg (by simp; omega), if_neg (by simp; omega), if_pos (by first | decide | simp), w0, if_pos (by first | decide | simp), if_pos (by first | decide | simp), i0, List.getElem?_cons_zero, Option.bind_some, if_neg (by simp; omega), w2, gatherumlaw03_rising.l0, if_neg (by first | decide | simp)]
  unfold gatherumlaw03_SpanLeaves.f
  rw [alive, Option.bind_some, if_neg (by first | decide | simp), hM, Option.bind_some, r1, Option.bind_some, if_neg (by first | decide | simp), if_neg (by first | decide | simp), if_pos (by first | decide | simp), if_pos (by first | decide | simp), i0, List.getElem?_cons_zero, Option.bind_some, if_pos (by first | decide | simp), i1, List.getElem?_cons_succ, List.getElem?_cons_zero, Option.bind_some, if_neg (by simp; omega)]
  rw [gatherumlaw03_SpanLeaves.l0, if_pos (by first | decide | simp), if_neg (by first | decide | simp), if_pos (by first | decide | simp), i0, List.getElem?_cons_zero, Option.bind_some, qHas, Option.bind_some, w1]
  have L2 : ∀ x : Bool, (gatherumlaw03_SpanLeaves.l0 (0 + 50) a0 a1 b0 b1 n [(p, q), (r, s)] 49 1 x) = gatherumlaw03_SpanLeaves.l1 a0 a1 b0 b1 n [(p, q), (r, s)] (x || decide (r ≤ n ∧ n < s)) (0 + 50) 0 true := fun x => by
    rw [gatherumlaw03_SpanLeaves.l0, if_pos (by first | decide | simp)]
    cases x
    · rw [if_neg (by first | decide | simp), if_pos (by first | decide | simp), i1, List.getElem?_cons_succ, List.getElem?_cons_zero, Option.bind_some, qHas, Option.bind_some, w2, gatherumlaw03_SpanLeaves.l0, if_neg (by first | decide | simp)]; rfl
    · rw [if_pos rfl, w2, gatherumlaw03_SpanLeaves.l0, if_neg (by first | decide | simp)]; rfl
  rw [L2]
  rw [gatherumlaw03_SpanLeaves.l1, if_pos (by first | decide | simp), if_pos rfl, if_pos (by first | decide | simp), i0, List.getElem?_cons_zero, Option.bind_some, qHas, Option.bind_some, if_pos (by rw [decide_eq_false e1]; rfl), qHas, Option.bind_some, w1, hw, decide_eq_false e2]
  rw [gatherumlaw03_SpanLeaves.l1, if_pos (by first | decide | simp), if_pos (by first | decide | simp), if_pos (by first | decide | simp), i1, List.getElem?_cons_succ, List.getElem?_cons_zero, Option.bind_some, qHas, Option.bind_some, if_pos (by rw [decide_eq_false e3]; rfl), qHas, Option.bind_some, w2, hw2, decide_eq_false e4, gatherumlaw03_SpanLeaves.l1, if_neg (by first | decide | simp), qHas, Option.bind_some, qHas]
  have hd : (decide (p ≤ n ∧ n < q) || decide (r ≤ n ∧ n < s)) = decide ((a0 ≤ n ∧ n < a1) ∧ ¬ (b0 ≤ n ∧ n < b1)) := by
    rw [← Bool.decide_or]; exact decide_eq_decide.2 hm
  rw [hd]
  by_cases g : a0 ≤ n ∧ n < a1
  · by_cases g2 : b0 ≤ n ∧ n < b1
    · simp [g, g2]
    · simp [g, g2]
  · simp [g]
theorem SpanLeaves (a0_0 : Int) (a0_1 : Int) (a1_0 : Int) (a1_1 : Int) (a2 : Int) (w0_0 : (Lit.int .i64 a0_0).wf = true) (w0_1 : (Lit.int .i64 a0_1).wf = true) (w1_0 : (Lit.int .i64 a1_0).wf = true) (w1_1 : (Lit.int .i64 a1_1).wf = true) (w2 : (Lit.int .i64 a2).wf = true) : ∃ K : Nat, gatherumlaw03_SpanLeaves.f K a0_0 a0_1 a1_0 a1_1 a2 = some true := by
  refine ⟨0 + 50, ?_⟩
  have r0 := R_of w0_0
  have r1 := R_of w0_1
  have r2 := R_of w1_0
  have r3 := R_of w1_1
  have hM := qMinus 0 a0_0 a0_1 a1_0 a1_1
  unfold lv at hM
  simp only at hM
  have hmin : R (min a0_1 a1_0) := by unfold R at *; omega
  have hmax : R (max a0_0 a1_1) := by unfold R at *; omega
  by_cases h : a1_1 ≤ a1_0
  · rw [if_pos h] at hM
    by_cases h1 : a0_1 ≤ a0_0
    · rw [if_pos h1] at hM
      exact fin0 _ _ _ _ _ (by omega) hM
    · rw [if_neg h1] at hM
      exact fin1 _ _ _ _ _ _ _ r0 r1 (by omega) (by omega) (by omega) (by omega) (by omega) (by omega) hM
  · rw [if_neg h] at hM
    by_cases h1 : min a0_1 a1_0 ≤ a0_0
    · rw [if_pos h1, List.nil_append] at hM
      by_cases h2 : a0_1 ≤ max a0_0 a1_1
      · rw [if_pos h2] at hM
        exact fin0 _ _ _ _ _ (by omega) hM
      · rw [if_neg h2] at hM
        exact fin1 _ _ _ _ _ _ _ hmax r1 (by omega) (by omega) (by omega) (by omega) (by omega) (by omega) hM
    · rw [if_neg h1] at hM
      by_cases h2 : a0_1 ≤ max a0_0 a1_1
      · rw [if_pos h2, List.append_nil] at hM
        exact fin1 _ _ _ _ _ _ _ r0 hmin (by omega) (by omega) (by omega) (by omega) (by omega) (by omega) hM
      · rw [if_neg h2] at hM
        exact fin2 _ _ _ _ _ _ _ _ _ r0 hmin hmax r1 (by omega) (by omega) (by omega) (by omega) (by omega) (by omega) (by omega) (by omega) (by omega) (by omega) (by omega) hM
end Go.Proofs.Ytpicoedbkeljoaa.PureSpanLeaves
