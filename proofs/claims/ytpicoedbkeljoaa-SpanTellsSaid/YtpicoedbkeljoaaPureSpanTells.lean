/- The plain law SpanTells, over the functions that the executor tells: no Go, no memory. -/
import Derived.Test.YtpicoedbkeljoaaXSpanTells
import Derived.Test.YtpicoedbkeljoaaAid
namespace Go.Proofs.Ytpicoedbkeljoaa.PureSpanTells
open Go Go.RowKit Go.Proofs.Ytpicoedbkeljoaa.Sy Go.Proofs.Ytpicoedbkeljoaa.XSpanTells Go.Proofs.Ytpicoedbkeljoaa.Aid
set_option linter.unusedVariables false
set_option linter.unusedSimpArgs false

set_option maxRecDepth 100000
/-! ### words of the plain laws -/
def emp (a b c d : Int) : Prop := c ≤ a ∨ d ≤ b
instance (a b c d : Int) : Decidable (emp a b c d) := by unfold emp; infer_instance
/-- A rectangle, brought by a place. -/
def bxm (t ax ay a b c d : Int) : Int × Int × Int × Int :=
  (min (wrap64 ((D t a b).1 + ax)) (wrap64 ((D t c d).1 + ax)), min (wrap64 ((D t a b).2 + ay)) (wrap64 ((D t c d).2 + ay)), max (wrap64 ((D t a b).1 + ax)) (wrap64 ((D t c d).1 + ax)), max (wrap64 ((D t a b).2 + ay)) (wrap64 ((D t c d).2 + ay)))
/-- How many plates a sheet has; how it is turned over; where may be printed; where a block may be. -/
def plt (s : Int) : Int := if s = 1 ∨ s = 2 then 2 else if s = 3 ∨ s = 4 then 1 else 0
def flp (s w h : Int) : Int × Int × Int := if plt s = 0 then (0, 0, 0) else if s = 2 ∨ s = 4 then (6, 0, h) else (4, w, 0)
def are (s w h side g t : Int) : Int × Int × Int × Int := if plt s = 0 then (0, 0, 0, 0) else if s = 2 ∨ s = 4 then (side, max g t, wrap64 (w - side), wrap64 (h - max g t)) else (side, g, wrap64 (w - side), wrap64 (h - t))
def reg (s w h : Int) (a : Int × Int × Int × Int) : Int × Int × Int × Int := if s = 3 then (a.1, a.2.1, min a.2.2.1 (w / 2), a.2.2.2) else if s = 4 then (a.1, a.2.1, a.2.2.1, min a.2.2.2 (h / 2)) else a
theorem plt_zero (s : Int) : plt s = 0 ↔ s < 1 ∨ s > 4 := by
  unfold plt
  by_cases h1 : s = 1 ∨ s = 2
  · rw [if_pos h1]; omega
  · rw [if_neg h1]; by_cases h2 : s = 3 ∨ s = 4
    · rw [if_pos h2]; omega
    · rw [if_neg h2]; omega
theorem min_R {a b : Int} (ha : R a) (hb : R b) : R (min a b) := by unfold R at *; omega
theorem max_R {a b : Int} (ha : R a) (hb : R b) : R (max a b) := by unfold R at *; omega
theorem are_R {s w h side g t : Int} (h1 : R side) (h2 : R g) (h3 : R t) : R (are s w h side g t).1 ∧ R (are s w h side g t).2.1 ∧ R (are s w h side g t).2.2.1 ∧ R (are s w h side g t).2.2.2 := by
  unfold are
  have h0 : R 0 := by unfold R; omega
  split
  · exact ⟨h0, h0, h0, h0⟩
  · split
    · exact ⟨h1, max_R h2 h3, R_wrap _, R_wrap _⟩
    · exact ⟨h1, h2, R_wrap _, R_wrap _⟩
theorem mni_eq (a b : Int) : mni a b = min a b := by unfold mni; split <;> omega
theorem mxi_eq (a b : Int) : mxi a b = max a b := by unfold mxi; split <;> omega
/-- A panel's size. -/
def psz (a b c x y z : Int) : Int × Int := (wrap64 (wrap64 (c + a) + b), wrap64 (wrap64 (z + x) + y))
def mt (a b c d a' b' c' d' : Int) : Int × Int × Int × Int := if emp (max a a') (max b b') (min c c') (min d d') then (0, 0, 0, 0) else (max a a', max b b', min c c', min d d')
def wit (a b c d a' b' c' d' : Int) : Prop := emp a b c d ∨ (a' ≤ a ∧ c ≤ c' ∧ b' ≤ b ∧ d ≤ d')
instance (a b c d a' b' c' d' : Int) : Decidable (wit a b c d a' b' c' d') := by unfold wit; infer_instance
/-- What a job's numbers may be. -/
def B15 (j0 : ByteArray) (j1 j2 j3 j4 j5 j6 j7 j8 j9 j10 j11 j12 j13 : Int) (j14 j15 : Ov) (j16 j17 j18 j19 j20 j21 j22 j23 j24 j25 j26 j27 j28 j29 j30 j31 j32 : Int) : Prop := (1 ≤ j1 ∧ j1 ≤ 100000) ∧ (-5000000 ≤ j2 ∧ j2 ≤ 5000000) ∧ (-5000000 ≤ j3 ∧ j3 ≤ 5000000) ∧ (1 ≤ j4 ∧ j4 ≤ 5000000) ∧ (1 ≤ j5 ∧ j5 ≤ 5000000) ∧ (0 ≤ j6 ∧ j6 ≤ 5000000) ∧ (0 ≤ j7 ∧ j7 ≤ 5000000) ∧ (0 ≤ j8 ∧ j8 ≤ 5000000) ∧ (0 ≤ j9 ∧ j9 ≤ 5000000) ∧ (0 ≤ j10 ∧ j10 ≤ 5000000) ∧ (1 ≤ j11 ∧ j11 ≤ 4) ∧ (1 ≤ j16 ∧ j16 ≤ 4) ∧ (1 ≤ j17 ∧ j17 ≤ 5000000) ∧ (1 ≤ j18 ∧ j18 ≤ 5000000) ∧ (0 ≤ j19 ∧ j19 ≤ 5000000) ∧ (0 ≤ j20 ∧ j20 ≤ 5000000) ∧ (0 ≤ j21 ∧ j21 ≤ 5000000) ∧ (0 ≤ j22 ∧ j22 ≤ 100000) ∧ (0 ≤ j23 ∧ j23 ≤ 1000) ∧ (1 ≤ j24 ∧ j24 ≤ 1000) ∧ (0 ≤ j25 ∧ j25 ≤ 3) ∧ (0 ≤ j26 ∧ j26 ≤ 5000000) ∧ (0 ≤ j27 ∧ j27 ≤ 5000000) ∧ (0 ≤ j28 ∧ j28 ≤ 5000000) ∧ (0 ≤ j29 ∧ j29 ≤ 5000000) ∧ (0 ≤ j30 ∧ j30 ≤ 5000000) ∧ (1 ≤ j31 ∧ j31 ≤ 1000) ∧ (0 ≤ j32 ∧ j32 ≤ 5000000)
theorem pdec {p : Prop} [Decidable p] (h : p) : ¬ ((!decide p) = true) := by simp [h]
theorem ndec {p : Prop} [Decidable p] (h : ¬ p) : (!decide p) = true := by simp [h]
theorem alive : gatherumlaw03_alive.f = some true := by decide +kernel
set_option maxHeartbeats 40000000 in
theorem SpanTells (a0_0 : Int) (a0_1 : Int) (a1_0 : Int) (a1_1 : Int) (a2 : Int) (w0_0 : (Lit.int .i64 a0_0).wf = true) (w0_1 : (Lit.int .i64 a0_1).wf = true) (w1_0 : (Lit.int .i64 a1_0).wf = true) (w1_1 : (Lit.int .i64 a1_1).wf = true) (w2 : (Lit.int .i64 a2).wf = true) : ∃ K : Nat, gatherumlaw03_SpanTells.f a0_0 a0_1 a1_0 a1_1 a2 = some true := by
  refine ⟨50, ?_⟩
  unfold gatherumlaw03_SpanTells.f
  simp only [alive, Option.bind_some, Bool.not_true, Bool.false_eq_true, if_false, span_Within.f, span_Empty.f, gatherumlaw03_empty.f, span_Meet.f, span_Hull.f, span_some.f, span_Has.f, gatherumlaw03_has.f, span_Apart.f, mni_eq, mxi_eq]
  have hm (a b : Int) : min a b = if a ≤ b then a else b := Int.min_def a b
  have hM (a b : Int) : max a b = if a ≤ b then b else a := Int.max_def a b
  by_cases z : 0 ≤ a2 <;> by_cases e1 : a0_1 ≤ a0_0 <;> by_cases e2 : a1_1 ≤ a1_0 <;> by_cases n1 : a0_0 ≤ a2 <;> by_cases n2 : a2 < a0_1 <;> try (exfalso; omega)
  all_goals (by_cases n3 : a1_0 ≤ a2 <;> by_cases n4 : a2 < a1_1 <;> try (exfalso; omega))
  all_goals (by_cases c1 : a0_0 ≤ a1_0 <;> by_cases c2 : a0_1 ≤ a1_1 <;> try (exfalso; omega))
  all_goals (by_cases d1 : a0_1 ≤ a1_0 <;> by_cases d2 : a1_1 ≤ a0_0 <;> try (exfalso; omega))
  all_goals (simp [hm, hM, *])
  all_goals (try omega)
  all_goals (try (repeat' split) <;> simp_all)
  all_goals (try omega)
end Go.Proofs.Ytpicoedbkeljoaa.PureSpanTells
