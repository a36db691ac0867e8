/- The plain law BoxCorners, over the functions that the executor tells: no Go, no memory. -/
import Derived.Test.YtnahjeeochfljaaXBoxCorners
import Derived.Test.YtnahjeeochfljaaAid
namespace Go.Proofs.Ytnahjeeochfljaa.PureBoxCorners
open Go Go.RowKit Go.Proofs.Ytnahjeeochfljaa.Sy Go.Proofs.Ytnahjeeochfljaa.XBoxCorners Go.Proofs.Ytnahjeeochfljaa.Aid
set_option linter.unusedVariables false
set_option linter.unusedSimpArgs false

set_option maxRecDepth 100000
/-! ### words of the plain laws -/
def emp (a b c d : Int) : Prop := c ≤ a ∨ d ≤ b
instance (a b c d : Int) : Decidable (emp a b c d) := by unfold emp; infer_instance
/-- A rectangle, brought by a place. -/
def bxm (t ax ay a b c d : Int) : Int × Int × Int × Int :=
  (min (wrap64 ((D t a b).1 + ax)) (wrap64 ((D t c d).1 + ax)), min (wrap64 ((D t a b).2 + ay)) (wrap64 ((D t c d).2 + ay)), max (wrap64 ((D t a b).1 + ax)) (wrap64 ((D t c d).1 + ax)), max (wrap64 ((D t a b).2 + ay)) (wrap64 ((D t c d).2 + ay)))
/-- How many plates a sheet has; how it is turned over; where may be printed; where a block may be. -/
def plt (s : Int) : Int := if s = 1 ∨ s = 2 then 2 else if s = 3 ∨ s = 4 then 1 else 0
def flp (s w h : Int) : Int × Int × Int := if plt s = 0 then (0, 0, 0) else if s = 2 ∨ s = 4 then (6, 0, h) else (4, w, 0)
def are (s w h side g t : Int) : Int × Int × Int × Int := if plt s = 0 then (0, 0, 0, 0) else if s = 2 ∨ s = 4 then (side, max g t, wrap64 (w - side), wrap64 (h - max g t)) else (side, g, wrap64 (w - side), wrap64 (h - t))
def reg (s w h : Int) (a : Int × Int × Int × Int) : Int × Int × Int × Int := if s = 3 then (a.1, a.2.1, min a.2.2.1 (w / 2), a.2.2.2) else if s = 4 then (a.1, a.2.1, a.2.2.1, min a.2.2.2 (h / 2)) else a
theorem plt_zero (s : Int) : plt s = 0 ↔ s < 1 ∨ s > 4 := by
  unfold plt
  by_cases h1 : s = 1 ∨ s = 2
  · rw [if_pos h1]; omega
  · rw [if_neg h1]; by_cases h2 : s = 3 ∨ s = 4
    · rw [if_pos h2]; omega
    · rw [if_neg h2]; omega
theorem min_R {a b : Int} (ha : R a) (hb : R b) : R (min a b) := by unfold R at *; omega
theorem max_R {a b : Int} (ha : R a) (hb : R b) : R (max a b) := by unfold R at *; omega
theorem are_R {s w h side g t : Int} (h1 : R side) (h2 : R g) (h3 : R t) : R (are s w h side g t).1 ∧ R (are s w h side g t).2.1 ∧ R (are s w h side g t).2.2.1 ∧ R (are s w h side g t).2.2.2 := by
  unfold are
  have h0 : R 0 := by unfold R; omega
  split
  · exact ⟨h0, h0, h0, h0⟩
  · split
    · exact ⟨h1, max_R h2 h3, R_wrap _, R_wrap _⟩
    · exact ⟨h1, h2, R_wrap _, R_wrap _⟩
theorem mni_eq (a b : Int) : mni a b = min a b := by unfold mni; split <;> omega
theorem mxi_eq (a b : Int) : mxi a b = max a b := by unfold mxi; split <;> omega
/-- A panel's size. -/
def psz (a b c x y z : Int) : Int × Int := (wrap64 (wrap64 (c + a) + b), wrap64 (wrap64 (z + x) + y))
def mt (a b c d a' b' c' d' : Int) : Int × Int × Int × Int := if emp (max a a') (max b b') (min c c') (min d d') then (0, 0, 0, 0) else (max a a', max b b', min c c', min d d')
def wit (a b c d a' b' c' d' : Int) : Prop := emp a b c d ∨ (a' ≤ a ∧ c ≤ c' ∧ b' ≤ b ∧ d ≤ d')
instance (a b c d a' b' c' d' : Int) : Decidable (wit a b c d a' b' c' d') := by unfold wit; infer_instance
/-- What a job's numbers may be. -/
def B15 (j0 : ByteArray) (j1 j2 j3 j4 j5 j6 j7 j8 j9 j10 j11 j12 j13 : Int) (j14 j15 : Ov) (j16 j17 j18 j19 j20 j21 j22 j23 j24 j25 j26 j27 j28 j29 j30 j31 j32 : Int) : Prop := (1 ≤ j1 ∧ j1 ≤ 100000) ∧ (-5000000 ≤ j2 ∧ j2 ≤ 5000000) ∧ (-5000000 ≤ j3 ∧ j3 ≤ 5000000) ∧ (1 ≤ j4 ∧ j4 ≤ 5000000) ∧ (1 ≤ j5 ∧ j5 ≤ 5000000) ∧ (0 ≤ j6 ∧ j6 ≤ 5000000) ∧ (0 ≤ j7 ∧ j7 ≤ 5000000) ∧ (0 ≤ j8 ∧ j8 ≤ 5000000) ∧ (0 ≤ j9 ∧ j9 ≤ 5000000) ∧ (0 ≤ j10 ∧ j10 ≤ 5000000) ∧ (1 ≤ j11 ∧ j11 ≤ 4) ∧ (1 ≤ j16 ∧ j16 ≤ 4) ∧ (1 ≤ j17 ∧ j17 ≤ 5000000) ∧ (1 ≤ j18 ∧ j18 ≤ 5000000) ∧ (0 ≤ j19 ∧ j19 ≤ 5000000) ∧ (0 ≤ j20 ∧ j20 ≤ 5000000) ∧ (0 ≤ j21 ∧ j21 ≤ 5000000) ∧ (0 ≤ j22 ∧ j22 ≤ 100000) ∧ (0 ≤ j23 ∧ j23 ≤ 1000) ∧ (1 ≤ j24 ∧ j24 ≤ 1000) ∧ (0 ≤ j25 ∧ j25 ≤ 3) ∧ (0 ≤ j26 ∧ j26 ≤ 5000000) ∧ (0 ≤ j27 ∧ j27 ≤ 5000000) ∧ (0 ≤ j28 ∧ j28 ≤ 5000000) ∧ (0 ≤ j29 ∧ j29 ≤ 5000000) ∧ (0 ≤ j30 ∧ j30 ≤ 5000000) ∧ (1 ≤ j31 ∧ j31 ≤ 1000) ∧ (0 ≤ j32 ∧ j32 ≤ 5000000)
theorem pdec {p : Prop} [Decidable p] (h : p) : ¬ ((!decide p) = true) := by simp [h]
theorem ndec {p : Prop} [Decidable p] (h : ¬ p) : (!decide p) = true := by simp [h]
theorem qbEmpty (a b c d : Int) : box_Empty.f a b c d = some (decide (emp a b c d)) := by
  unfold box_Empty.f emp
  by_cases h : c ≤ a <;> simp [h]
theorem qbSplit (a b c d : Int) (u : Bool) (at_ : Int) (he : ¬ emp a b c d) : box_Split.f a b c d u at_ = some (if u = true then (if a < at_ ∧ at_ < c then [(a, b, at_, d), (at_, b, c, d)] else [(a, b, c, d)]) else (if b < at_ ∧ at_ < d then [(a, b, c, at_), (a, at_, c, d)] else [(a, b, c, d)])) := by
  unfold box_Split.f
  rw [qbEmpty, Option.bind_some, if_neg (by simpa using he)]
  cases u
  · by_cases h1 : b < at_ <;> by_cases h2 : at_ < d <;> simp [h1, h2]
  · by_cases h1 : a < at_ <;> by_cases h2 : at_ < c <;> simp [h1, h2]
theorem qbMeet (a b c d a' b' c' d' : Int) : box_Meet.f a b c d a' b' c' d' = some (mt a b c d a' b' c' d') := by
  simp only [box_Meet.f, qbEmpty, Option.bind_some, mni_eq, mxi_eq, mt]
  by_cases h : emp (max a a') (max b b') (min c c') (min d d') <;> simp [h]
theorem alive : gatherumlaw04_alive.f = some true := by kernel_rfl
theorem m_cases (n : Int) : wrap64 (1 + Go.bits .and .i64 n 3) = 1 ∨ wrap64 (1 + Go.bits .and .i64 n 3) = 2 ∨ wrap64 (1 + Go.bits .and .i64 n 3) = 3 ∨ wrap64 (1 + Go.bits .and .i64 n 3) = 4 := by
  have h := and3 n
  rw [h]
  have h0 := Int.emod_nonneg n (show (4 : Int) ≠ 0 by decide)
  have h1 := Int.emod_lt_of_pos n (show (0 : Int) < 4 by decide)
  rw [wrap_id (by omega) (by omega)]
  omega
theorem wk (a b c d m : Int) : gatherumlaw04_walked.f a b c d m = some (Hw.wkd a b c d m) := rfl
theorem inner (J : Int → Option Bool) (n x : Int) (a b c d m : Int) (hm : wrap64 (1 + Go.bits .and .i64 n 3) = m) (h : m = 1 ∨ m = 2 ∨ m = 3 ∨ m = 4) (k : Nat) (hk : 10 ≤ k) : gatherumlaw04_BoxCorners.l1 J n [(a, b), (c, b), (c, d), (a, d)] x (Hw.wkd a b c d m) k 0 = J (wrap64 (x + 1)) := by
  have w1 : wrap64 (0 + 1) = 1 := by decide +kernel
  have w2 : wrap64 (1 + 1) = 2 := by decide +kernel
  have w3 : wrap64 (2 + 1) = 3 := by decide +kernel
  have w4 : wrap64 (3 + 1) = 4 := by decide +kernel
  have v1 : wrap64 1 = 1 := by decide +kernel
  have v2 : wrap64 2 = 2 := by decide +kernel
  have v3 : wrap64 3 = 3 := by decide +kernel
  have v4 : wrap64 4 = 4 := by decide +kernel
  obtain ⟨k, rfl⟩ : ∃ k', k = k' + 1 + 1 + 1 + 1 + 1 := ⟨k - 5, by omega⟩
  rcases h with rfl | rfl | rfl | rfl <;> simp [gatherumlaw04_BoxCorners.l1, hm, Hw.wkd, Hw.crn, w1, w2, w3, w4, v1, v2, v3, v4]
theorem outer (K : Nat) (hK : 10 ≤ K) (n : Int) (a b c d : Int) : gatherumlaw04_BoxCorners.l0 K a b c d n [(a, b), (c, b), (c, d), (a, d)] K 0 = some true := by
  have w1 : wrap64 (0 + 1) = 1 := by decide +kernel
  have w2 : wrap64 (1 + 1) = 2 := by decide +kernel
  have hc := m_cases n
  obtain ⟨m, hm⟩ : ∃ m, wrap64 (1 + Go.bits .and .i64 n 3) = m := ⟨_, rfl⟩
  rw [hm] at hc
  have hlen : (((Hw.wkd a b c d m).length : Nat) : Int) = m := by rcases hc with rfl | rfl | rfl | rfl <;> rfl
  have h9 : (((Hw.wkd a b c d 9).length : Nat) : Int) = 4 := rfl
  have round : ∀ (k : Nat) (x : Int), x < 2 → gatherumlaw04_BoxCorners.l0 K a b c d n [(a, b), (c, b), (c, d), (a, d)] (k + 1) x = gatherumlaw04_BoxCorners.l0 K a b c d n [(a, b), (c, b), (c, d), (a, d)] k (wrap64 (x + 1)) := fun k x hx => by
    rw [gatherumlaw04_BoxCorners.l0, if_pos (by simpa using hx), wk, Option.bind_some, hm, hlen, if_neg (by simp)]
    exact inner (fun y0 => gatherumlaw04_BoxCorners.l0 K a b c d n [(a, b), (c, b), (c, d), (a, d)] k y0) n x a b c d m hm hc K hK
  have last : ∀ k : Nat, gatherumlaw04_BoxCorners.l0 K a b c d n [(a, b), (c, b), (c, d), (a, d)] (k + 1) 2 = some true := fun k => by
    rw [gatherumlaw04_BoxCorners.l0, if_neg (by decide), wk, Option.bind_some, h9]
    rfl
  suffices h : ∀ k : Nat, gatherumlaw04_BoxCorners.l0 K a b c d n [(a, b), (c, b), (c, d), (a, d)] (k + 1 + 1 + 1) 0 = some true by
    obtain ⟨k, hk⟩ : ∃ k', K = k' + 1 + 1 + 1 := ⟨K - 3, by omega⟩
    have := h k
    rwa [← hk] at this
  intro k
  rw [round (k + 1 + 1) 0 (by decide), w1, round (k + 1) 1 (by decide), w2]
  exact last k
theorem BoxCorners (a0_0 : Int) (a0_1 : Int) (a0_2 : Int) (a0_3 : Int) (a1 : Int) (w0_0 : (Lit.int .i64 a0_0).wf = true) (w0_1 : (Lit.int .i64 a0_1).wf = true) (w0_2 : (Lit.int .i64 a0_2).wf = true) (w0_3 : (Lit.int .i64 a0_3).wf = true) (w1 : (Lit.int .i64 a1).wf = true) : ∃ K : Nat, gatherumlaw04_BoxCorners.f K a0_0 a0_1 a0_2 a0_3 a1 = some true := by
  refine ⟨20, ?_⟩
  unfold gatherumlaw04_BoxCorners.f
  rw [alive, Option.bind_some, if_neg (by decide)]
  exact outer 20 (by omega) a1 a0_0 a0_1 a0_2 a0_3
end Go.Proofs.Ytnahjeeochfljaa.PureBoxCorners
