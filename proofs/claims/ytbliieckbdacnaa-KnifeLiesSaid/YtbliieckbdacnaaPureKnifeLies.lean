/- The plain law KnifeLies, over the functions that the executor tells: no Go, no memory. -/
import Derived.Test.YtbliieckbdacnaaXKnifeLies
import Derived.Test.YtbliieckbdacnaaAid
namespace Go.Proofs.Ytbliieckbdacnaa.PureKnifeLies
open Go Go.RowKit Go.Proofs.Ytbliieckbdacnaa.Sy Go.Proofs.Ytbliieckbdacnaa.XKnifeLies Go.Proofs.Ytbliieckbdacnaa.Aid
set_option linter.unusedVariables false
set_option linter.unusedSimpArgs false

set_option maxRecDepth 100000
/-! ### words of the plain laws -/
def emp (a b c d : Int) : Prop := c ≤ a ∨ d ≤ b
instance (a b c d : Int) : Decidable (emp a b c d) := by unfold emp; infer_instance
/-- A rectangle, brought by a place. -/
def bxm (t ax ay a b c d : Int) : Int × Int × Int × Int :=
  (min (wrap64 ((D t a b).1 + ax)) (wrap64 ((D t c d).1 + ax)), min (wrap64 ((D t a b).2 + ay)) (wrap64 ((D t c d).2 + ay)), max (wrap64 ((D t a b).1 + ax)) (wrap64 ((D t c d).1 + ax)), max (wrap64 ((D t a b).2 + ay)) (wrap64 ((D t c d).2 + ay)))
/-- How many plates a sheet has; how it is turned over; where may be printed; where a block may be. -/
def plt (s : Int) : Int := if s = 1 ∨ s = 2 then 2 else if s = 3 ∨ s = 4 then 1 else 0
def flp (s w h : Int) : Int × Int × Int := if plt s = 0 then (0, 0, 0) else if s = 2 ∨ s = 4 then (6, 0, h) else (4, w, 0)
def are (s w h side g t : Int) : Int × Int × Int × Int := if plt s = 0 then (0, 0, 0, 0) else if s = 2 ∨ s = 4 then (side, max g t, wrap64 (w - side), wrap64 (h - max g t)) else (side, g, wrap64 (w - side), wrap64 (h - t))
def reg (s w h : Int) (a : Int × Int × Int × Int) : Int × Int × Int × Int := if s = 3 then (a.1, a.2.1, min a.2.2.1 (w / 2), a.2.2.2) else if s = 4 then (a.1, a.2.1, a.2.2.1, min a.2.2.2 (h / 2)) else a
theorem plt_zero (s : Int) : plt s = 0 ↔ s < 1 ∨ s > 4 := by
  unfold plt
  by_cases h1 : s = 1 ∨ s = 2
  · rw [if_pos h1]; omega
  · rw [if_neg h1]; by_cases h2 : s = 3 ∨ s = 4
    · rw [if_pos h2]; omega
    · rw [if_neg h2]; omega
theorem min_R {a b : Int} (ha : R a) (hb : R b) : R (min a b) := by unfold R at *; omega
theorem max_R {a b : Int} (ha : R a) (hb : R b) : R (max a b) := by unfold R at *; omega
theorem are_R {s w h side g t : Int} (h1 : R side) (h2 : R g) (h3 : R t) : R (are s w h side g t).1 ∧ R (are s w h side g t).2.1 ∧ R (are s w h side g t).2.2.1 ∧ R (are s w h side g t).2.2.2 := by
  unfold are
  have h0 : R 0 := by unfold R; omega
  split
  · exact ⟨h0, h0, h0, h0⟩
  · split
    · exact ⟨h1, max_R h2 h3, R_wrap _, R_wrap _⟩
    · exact ⟨h1, h2, R_wrap _, R_wrap _⟩
theorem mni_eq (a b : Int) : mni a b = min a b := by unfold mni; split <;> omega
theorem mxi_eq (a b : Int) : mxi a b = max a b := by unfold mxi; split <;> omega
/-- A panel's size. -/
def psz (a b c x y z : Int) : Int × Int := (wrap64 (wrap64 (c + a) + b), wrap64 (wrap64 (z + x) + y))
def mt (a b c d a' b' c' d' : Int) : Int × Int × Int × Int := if emp (max a a') (max b b') (min c c') (min d d') then (0, 0, 0, 0) else (max a a', max b b', min c c', min d d')
def wit (a b c d a' b' c' d' : Int) : Prop := emp a b c d ∨ (a' ≤ a ∧ c ≤ c' ∧ b' ≤ b ∧ d ≤ d')
instance (a b c d a' b' c' d' : Int) : Decidable (wit a b c d a' b' c' d') := by unfold wit; infer_instance
/-- What a job's numbers may be. -/
def B15 (j0 : ByteArray) (j1 j2 j3 j4 j5 j6 j7 j8 j9 j10 j11 j12 j13 : Int) (j14 j15 : Ov) (j16 j17 j18 j19 j20 j21 j22 j23 j24 j25 j26 j27 j28 j29 j30 j31 j32 : Int) : Prop := (1 ≤ j1 ∧ j1 ≤ 100000) ∧ (-5000000 ≤ j2 ∧ j2 ≤ 5000000) ∧ (-5000000 ≤ j3 ∧ j3 ≤ 5000000) ∧ (1 ≤ j4 ∧ j4 ≤ 5000000) ∧ (1 ≤ j5 ∧ j5 ≤ 5000000) ∧ (0 ≤ j6 ∧ j6 ≤ 5000000) ∧ (0 ≤ j7 ∧ j7 ≤ 5000000) ∧ (0 ≤ j8 ∧ j8 ≤ 5000000) ∧ (0 ≤ j9 ∧ j9 ≤ 5000000) ∧ (0 ≤ j10 ∧ j10 ≤ 5000000) ∧ (1 ≤ j11 ∧ j11 ≤ 4) ∧ (1 ≤ j16 ∧ j16 ≤ 4) ∧ (1 ≤ j17 ∧ j17 ≤ 5000000) ∧ (1 ≤ j18 ∧ j18 ≤ 5000000) ∧ (0 ≤ j19 ∧ j19 ≤ 5000000) ∧ (0 ≤ j20 ∧ j20 ≤ 5000000) ∧ (0 ≤ j21 ∧ j21 ≤ 5000000) ∧ (0 ≤ j22 ∧ j22 ≤ 100000) ∧ (0 ≤ j23 ∧ j23 ≤ 1000) ∧ (1 ≤ j24 ∧ j24 ≤ 1000) ∧ (0 ≤ j25 ∧ j25 ≤ 3) ∧ (0 ≤ j26 ∧ j26 ≤ 5000000) ∧ (0 ≤ j27 ∧ j27 ≤ 5000000) ∧ (0 ≤ j28 ∧ j28 ≤ 5000000) ∧ (0 ≤ j29 ∧ j29 ≤ 5000000) ∧ (0 ≤ j30 ∧ j30 ≤ 5000000) ∧ (1 ≤ j31 ∧ j31 ≤ 1000) ∧ (0 ≤ j32 ∧ j32 ≤ 5000000)
theorem pdec {p : Prop} [Decidable p] (h : p) : ¬ ((!decide p) = true) := by simp [h]
theorem ndec {p : Prop} [Decidable p] (h : ¬ p) : (!decide p) = true := by simp [h]
theorem qIn (a b c : Int) : num_In.f a b c = some (decide (b ≤ a ∧ a ≤ c)) := by
  unfold num_In.f
  by_cases h : b ≤ a <;> simp [h]
/-- How many panels there are. -/
def pan (c r : Int) : Int := if (1 ≤ c ∧ c ≤ 64) ∧ (1 ≤ r ∧ r ≤ 64) then c * r else 0
theorem qPanels (c r : Int) (o : Ov) : scheme_Panels.f c r o = some (pan c r) := by
  unfold scheme_Panels.f pan
  simp only [qIn, Option.bind_some]
  by_cases h : 1 ≤ c ∧ c ≤ 64
  · by_cases h' : 1 ≤ r ∧ r ≤ 64
    · have : 0 ≤ c * r := Int.mul_nonneg (by omega) (by omega)
      have : c * r ≤ 64 * 64 := Int.mul_le_mul h.2 h'.2 (by omega) (by omega)
      simp only [h, h', and_self, decide_true, Bool.not_true, Bool.false_eq_true, if_false, if_true]
      rw [wrap_id (by omega) (by omega)]
    · simp [h, h']
  · simp [h]
theorem pan_bounds (c r : Int) : 0 ≤ pan c r ∧ pan c r ≤ 4096 := by
  unfold pan; split
  · rename_i h
    have : 0 ≤ c * r := Int.mul_nonneg (by omega) (by omega)
    have : c * r ≤ 64 * 64 := Int.mul_le_mul h.1.2 h.2.2 (by omega) (by omega)
    omega
  · omega
theorem pan_pos {c r : Int} (h : 0 < pan c r) : (1 ≤ c ∧ c ≤ 64) ∧ (1 ≤ r ∧ r ≤ 64) := by
  unfold pan at h; split at h
  · assumption
  · omega
theorem first_loop (A F T : List Int) (n : Nat) (hA : A.length = n) (hF : F.length = n) (hT : T.length = n) (hn : n < 1000000) :
    ∀ (d k i : Nat), i + d = n → d < k → (∃ v, gatherumref15_First.l0 A F T k i = some v ∧ 0 ≤ v) ∨ (gatherumref15_First.l0 A F T k i = some (-1) ∧ ∀ j, i ≤ j → j < n → ∀ a f t, A[j]? = some a → F[j]? = some f → T[j]? = some t → f ≤ a ∧ a ≤ t) := by
  intro d
  induction d with
  | zero =>
    intro k i hi hk
    obtain ⟨k, rfl⟩ : ∃ m, k = m + 1 := ⟨k - 1, by omega⟩
    refine Or.inr ⟨?_, fun j h1 h2 => by omega⟩
    rw [gatherumref15_First.l0, if_neg (by simp; omega)]
  | succ d ih =>
    intro k i hi hk
    obtain ⟨k, rfl⟩ : ∃ m, k = m + 1 := ⟨k - 1, by omega⟩
    rw [gatherumref15_First.l0]
    have hAi : A[i]? = some A[i] := List.getElem?_eq_getElem (by omega)
    have hFi : F[i]? = some F[i] := List.getElem?_eq_getElem (by omega)
    have hTi : T[i]? = some T[i] := List.getElem?_eq_getElem (by omega)
    have g1 : (decide ((i : Int) < ((A.length : Nat) : Int))) = true := by simp; omega
    have g2 : (decide ((i : Int) < ((F.length : Nat) : Int))) = true := by simp; omega
    have g3 : (decide ((i : Int) < ((T.length : Nat) : Int))) = true := by simp; omega
    have g4 : (decide ((0 : Int) ≤ (i : Int))) = true := by simp
    simp only [Int.toNat_natCast, hAi, hFi, hTi, Option.bind_some, g1, g2, g3, g4, if_true]
    by_cases h1 : A[i] < F[i]
    · rw [if_pos (by simpa using h1)]; exact Or.inl ⟨_, rfl, by omega⟩
    · rw [if_neg (by simpa using h1)]
      by_cases h2 : T[i] < A[i]
      · rw [if_pos (by simpa using h2)]; exact Or.inl ⟨_, rfl, by omega⟩
      · rw [if_neg (by simpa using h2), wrap_id (by omega) (by omega), show (i : Int) + 1 = ((i + 1 : Nat) : Int) by omega]
        rcases ih k (i + 1) (by omega) (by omega) with h | ⟨h, hh⟩
        · exact Or.inl h
        · refine Or.inr ⟨h, fun j hj1 hj2 a f t ha hf ht => ?_⟩
          rcases Nat.lt_or_ge i j with hlt | hge
          · exact hh j hlt hj2 a f t ha hf ht
          · obtain rfl : j = i := by omega
            rw [hAi] at ha; rw [hFi] at hf; rw [hTi] at ht
            cases ha; cases hf; cases ht
            omega
theorem first_ok (A F T : List Int) (n : Nat) (hA : A.length = n) (hF : F.length = n) (hT : T.length = n) (hn : n < 1000000) (hb : ∀ j, j < n → ∀ a f t, A[j]? = some a → F[j]? = some f → T[j]? = some t → f ≤ a ∧ a ≤ t) :
    ∀ (d k i : Nat), i + d = n → d < k → gatherumref15_First.l0 A F T k i = some (-1) := by
  intro d
  induction d with
  | zero =>
    intro k i hi hk
    obtain ⟨k, rfl⟩ : ∃ m, k = m + 1 := ⟨k - 1, by omega⟩
    rw [gatherumref15_First.l0, if_neg (by simp; omega)]
  | succ d ih =>
    intro k i hi hk
    obtain ⟨k, rfl⟩ : ∃ m, k = m + 1 := ⟨k - 1, by omega⟩
    rw [gatherumref15_First.l0]
    have hAi : A[i]? = some A[i] := List.getElem?_eq_getElem (by omega)
    have hFi : F[i]? = some F[i] := List.getElem?_eq_getElem (by omega)
    have hTi : T[i]? = some T[i] := List.getElem?_eq_getElem (by omega)
    have g1 : (decide ((i : Int) < ((A.length : Nat) : Int))) = true := by simp; omega
    have g2 : (decide ((i : Int) < ((F.length : Nat) : Int))) = true := by simp; omega
    have g3 : (decide ((i : Int) < ((T.length : Nat) : Int))) = true := by simp; omega
    have g4 : (decide ((0 : Int) ≤ (i : Int))) = true := by simp
    have hbi := hb i (by omega) _ _ _ hAi hFi hTi
    simp only [Int.toNat_natCast, hAi, hFi, hTi, Option.bind_some, g1, g2, g3, g4, if_true]
    rw [if_neg (by simp; omega), if_neg (by simp; omega), wrap_id (by omega) (by omega), show (i : Int) + 1 = ((i + 1 : Nat) : Int) by omega]
    exact ih k (i + 1) (by omega) (by omega)
theorem q15First (K : Nat) (j0 : ByteArray) (j1 j2 j3 j4 j5 j6 j7 j8 j9 j10 j11 j12 j13 : Int) (j14 j15 : Ov) (j16 j17 j18 j19 j20 j21 j22 j23 j24 j25 j26 j27 j28 j29 j30 j31 j32 : Int) : (∃ v, gatherumref15_First.f (K + 50) j0 j1 j2 j3 j4 j5 j6 j7 j8 j9 j10 j11 j12 j13 j14 j15 j16 j17 j18 j19 j20 j21 j22 j23 j24 j25 j26 j27 j28 j29 j30 j31 j32 = some v ∧ 0 ≤ v) ∨ (gatherumref15_First.f (K + 50) j0 j1 j2 j3 j4 j5 j6 j7 j8 j9 j10 j11 j12 j13 j14 j15 j16 j17 j18 j19 j20 j21 j22 j23 j24 j25 j26 j27 j28 j29 j30 j31 j32 = some (-1) ∧ (1 ≤ j1 ∧ j1 ≤ 100000) ∧ (-5000000 ≤ j2 ∧ j2 ≤ 5000000) ∧ (-5000000 ≤ j3 ∧ j3 ≤ 5000000) ∧ (1 ≤ j4 ∧ j4 ≤ 5000000) ∧ (1 ≤ j5 ∧ j5 ≤ 5000000) ∧ (0 ≤ j6 ∧ j6 ≤ 5000000) ∧ (0 ≤ j7 ∧ j7 ≤ 5000000) ∧ (0 ≤ j8 ∧ j8 ≤ 5000000) ∧ (0 ≤ j9 ∧ j9 ≤ 5000000) ∧ (0 ≤ j10 ∧ j10 ≤ 5000000) ∧ (1 ≤ j11 ∧ j11 ≤ 4) ∧ (1 ≤ j16 ∧ j16 ≤ 4) ∧ (1 ≤ j17 ∧ j17 ≤ 5000000) ∧ (1 ≤ j18 ∧ j18 ≤ 5000000) ∧ (0 ≤ j19 ∧ j19 ≤ 5000000) ∧ (0 ≤ j20 ∧ j20 ≤ 5000000) ∧ (0 ≤ j21 ∧ j21 ≤ 5000000) ∧ (0 ≤ j22 ∧ j22 ≤ 100000) ∧ (0 ≤ j23 ∧ j23 ≤ 1000) ∧ (1 ≤ j24 ∧ j24 ≤ 1000) ∧ (0 ≤ j25 ∧ j25 ≤ 3) ∧ (0 ≤ j26 ∧ j26 ≤ 5000000) ∧ (0 ≤ j27 ∧ j27 ≤ 5000000) ∧ (0 ≤ j28 ∧ j28 ≤ 5000000) ∧ (0 ≤ j29 ∧ j29 ≤ 5000000) ∧ (0 ≤ j30 ∧ j30 ≤ 5000000) ∧ (1 ≤ j31 ∧ j31 ≤ 1000) ∧ (0 ≤ j32 ∧ j32 ≤ 5000000)) := by
  have h := first_loop [j1, j2, j3, j4, j5, j6, j7, j8, j9, j10, j11, j16, j17, j18, j19, j20, j21, j22, j23, j24, j25, j26, j27, j28, j29, j30, j31, j32] [1, -5000000, -5000000, 1, 1, 0, 0, 0, 0, 0, 1, 1, 1, 1, 0, 0, 0, 0, 0, 1, 0, 0, 0, 0, 0, 0, 1, 0] [100000, 5000000, 5000000, 5000000, 5000000, 5000000, 5000000, 5000000, 5000000, 5000000, 4, 4, 5000000, 5000000, 5000000, 5000000, 5000000, 100000, 1000, 1000, 3, 5000000, 5000000, 5000000, 5000000, 5000000, 1000, 5000000] 28 rfl rfl rfl (by omega) 28 (K + 50) 0 (by omega) (by omega)
  rcases h with h | ⟨h, hh⟩
  · exact Or.inl h
  · refine Or.inr ⟨h, hh 0 (by omega) (by omega) _ _ _ rfl rfl rfl, hh 1 (by omega) (by omega) _ _ _ rfl rfl rfl, hh 2 (by omega) (by omega) _ _ _ rfl rfl rfl, hh 3 (by omega) (by omega) _ _ _ rfl rfl rfl, hh 4 (by omega) (by omega) _ _ _ rfl rfl rfl, hh 5 (by omega) (by omega) _ _ _ rfl rfl rfl, hh 6 (by omega) (by omega) _ _ _ rfl rfl rfl, hh 7 (by omega) (by omega) _ _ _ rfl rfl rfl, hh 8 (by omega) (by omega) _ _ _ rfl rfl rfl, hh 9 (by omega) (by omega) _ _ _ rfl rfl rfl, hh 10 (by omega) (by omega) _ _ _ rfl rfl rfl, hh 11 (by omega) (by omega) _ _ _ rfl rfl rfl, hh 12 (by omega) (by omega) _ _ _ rfl rfl rfl, hh 13 (by omega) (by omega) _ _ _ rfl rfl rfl, hh 14 (by omega) (by omega) _ _ _ rfl rfl rfl, hh 15 (by omega) (by omega) _ _ _ rfl rfl rfl, hh 16 (by omega) (by omega) _ _ _ rfl rfl rfl, hh 17 (by omega) (by omega) _ _ _ rfl rfl rfl, hh 18 (by omega) (by omega) _ _ _ rfl rfl rfl, hh 19 (by omega) (by omega) _ _ _ rfl rfl rfl, hh 20 (by omega) (by omega) _ _ _ rfl rfl rfl, hh 21 (by omega) (by omega) _ _ _ rfl rfl rfl, hh 22 (by omega) (by omega) _ _ _ rfl rfl rfl, hh 23 (by omega) (by omega) _ _ _ rfl rfl rfl, hh 24 (by omega) (by omega) _ _ _ rfl rfl rfl, hh 25 (by omega) (by omega) _ _ _ rfl rfl rfl, hh 26 (by omega) (by omega) _ _ _ rfl rfl rfl, hh 27 (by omega) (by omega) _ _ _ rfl rfl rfl⟩
theorem q15Ok (K : Nat) (j0 : ByteArray) (j1 j2 j3 j4 j5 j6 j7 j8 j9 j10 j11 j12 j13 : Int) (j14 j15 : Ov) (j16 j17 j18 j19 j20 j21 j22 j23 j24 j25 j26 j27 j28 j29 j30 j31 j32 : Int) (h : B15 j0 j1 j2 j3 j4 j5 j6 j7 j8 j9 j10 j11 j12 j13 j14 j15 j16 j17 j18 j19 j20 j21 j22 j23 j24 j25 j26 j27 j28 j29 j30 j31 j32) : gatherumref15_First.f (K + 50) j0 j1 j2 j3 j4 j5 j6 j7 j8 j9 j10 j11 j12 j13 j14 j15 j16 j17 j18 j19 j20 j21 j22 j23 j24 j25 j26 j27 j28 j29 j30 j31 j32 = some (-1) := by
  refine first_ok [j1, j2, j3, j4, j5, j6, j7, j8, j9, j10, j11, j16, j17, j18, j19, j20, j21, j22, j23, j24, j25, j26, j27, j28, j29, j30, j31, j32] [1, -5000000, -5000000, 1, 1, 0, 0, 0, 0, 0, 1, 1, 1, 1, 0, 0, 0, 0, 0, 1, 0, 0, 0, 0, 0, 0, 1, 0] [100000, 5000000, 5000000, 5000000, 5000000, 5000000, 5000000, 5000000, 5000000, 5000000, 4, 4, 5000000, 5000000, 5000000, 5000000, 5000000, 100000, 1000, 1000, 3, 5000000, 5000000, 5000000, 5000000, 5000000, 1000, 5000000] 28 rfl rfl rfl (by omega) ?_ 28 (K + 50) 0 (by omega) (by omega)
  intro j hj a f t ha hf ht
  have hc : j = 0 ∨ j = 1 ∨ j = 2 ∨ j = 3 ∨ j = 4 ∨ j = 5 ∨ j = 6 ∨ j = 7 ∨ j = 8 ∨ j = 9 ∨ j = 10 ∨ j = 11 ∨ j = 12 ∨ j = 13 ∨ j = 14 ∨ j = 15 ∨ j = 16 ∨ j = 17 ∨ j = 18 ∨ j = 19 ∨ j = 20 ∨ j = 21 ∨ j = 22 ∨ j = 23 ∨ j = 24 ∨ j = 25 ∨ j = 26 ∨ j = 27 := by omega
  rcases hc with rfl | rfl | rfl | rfl | rfl | rfl | rfl | rfl | rfl | rfl | rfl | rfl | rfl | rfl | rfl | rfl | rfl | rfl | rfl | rfl | rfl | rfl | rfl | rfl | rfl | rfl | rfl | rfl
  · cases ha; cases hf; cases ht; exact h.1
  · cases ha; cases hf; cases ht; exact h.2.1
  · cases ha; cases hf; cases ht; exact h.2.2.1
  · cases ha; cases hf; cases ht; exact h.2.2.2.1
  · cases ha; cases hf; cases ht; exact h.2.2.2.2.1
  · cases ha; cases hf; cases ht; exact h.2.2.2.2.2.1
  · cases ha; cases hf; cases ht; exact h.2.2.2.2.2.2.1
  · cases ha; cases hf; cases ht; exact h.2.2.2.2.2.2.2.1
  · cases ha; cases hf; cases ht; exact h.2.2.2.2.2.2.2.2.1
  · cases ha; cases hf; cases ht; exact h.2.2.2.2.2.2.2.2.2.1
  · cases ha; cases hf; cases ht; exact h.2.2.2.2.2.2.2.2.2.2.1
  · cases ha; cases hf; cases ht; exact h.2.2.2.2.2.2.2.2.2.2.2.1
  · cases ha; cases hf; cases ht; exact h.2.2.2.2.2.2.2.2.2.2.2.2.1
  · cases ha; cases hf; cases ht; exact h.2.2.2.2.2.2.2.2.2.2.2.2.2.1
  · cases ha; cases hf; cases ht; exact h.2.2.2.2.2.2.2.2.2.2.2.2.2.2.1
  · cases ha; cases hf; cases ht; exact h.2.2.2.2.2.2.2.2.2.2.2.2.2.2.2.1
  · cases ha; cases hf; cases ht; exact h.2.2.2.2.2.2.2.2.2.2.2.2.2.2.2.2.1
  · cases ha; cases hf; cases ht; exact h.2.2.2.2.2.2.2.2.2.2.2.2.2.2.2.2.2.1
  · cases ha; cases hf; cases ht; exact h.2.2.2.2.2.2.2.2.2.2.2.2.2.2.2.2.2.2.1
  · cases ha; cases hf; cases ht; exact h.2.2.2.2.2.2.2.2.2.2.2.2.2.2.2.2.2.2.2.1
  · cases ha; cases hf; cases ht; exact h.2.2.2.2.2.2.2.2.2.2.2.2.2.2.2.2.2.2.2.2.1
  · cases ha; cases hf; cases ht; exact h.2.2.2.2.2.2.2.2.2.2.2.2.2.2.2.2.2.2.2.2.2.1
  · cases ha; cases hf; cases ht; exact h.2.2.2.2.2.2.2.2.2.2.2.2.2.2.2.2.2.2.2.2.2.2.1
  · cases ha; cases hf; cases ht; exact h.2.2.2.2.2.2.2.2.2.2.2.2.2.2.2.2.2.2.2.2.2.2.2.1
  · cases ha; cases hf; cases ht; exact h.2.2.2.2.2.2.2.2.2.2.2.2.2.2.2.2.2.2.2.2.2.2.2.2.1
  · cases ha; cases hf; cases ht; exact h.2.2.2.2.2.2.2.2.2.2.2.2.2.2.2.2.2.2.2.2.2.2.2.2.2.1
  · cases ha; cases hf; cases ht; exact h.2.2.2.2.2.2.2.2.2.2.2.2.2.2.2.2.2.2.2.2.2.2.2.2.2.2.1
  · cases ha; cases hf; cases ht; exact h.2.2.2.2.2.2.2.2.2.2.2.2.2.2.2.2.2.2.2.2.2.2.2.2.2.2.2
theorem q15Both (K : Nat) (j0 : ByteArray) (j1 j2 j3 j4 j5 j6 j7 j8 j9 j10 j11 j12 j13 : Int) (j14 j15 : Ov) (j16 j17 j18 j19 j20 j21 j22 j23 j24 j25 j26 j27 j28 j29 j30 j31 j32 : Int) : (B15 j0 j1 j2 j3 j4 j5 j6 j7 j8 j9 j10 j11 j12 j13 j14 j15 j16 j17 j18 j19 j20 j21 j22 j23 j24 j25 j26 j27 j28 j29 j30 j31 j32 ∧ gatherumref15_First.f (K + 50) j0 j1 j2 j3 j4 j5 j6 j7 j8 j9 j10 j11 j12 j13 j14 j15 j16 j17 j18 j19 j20 j21 j22 j23 j24 j25 j26 j27 j28 j29 j30 j31 j32 = some (-1)) ∨ (¬ B15 j0 j1 j2 j3 j4 j5 j6 j7 j8 j9 j10 j11 j12 j13 j14 j15 j16 j17 j18 j19 j20 j21 j22 j23 j24 j25 j26 j27 j28 j29 j30 j31 j32 ∧ ∃ v, gatherumref15_First.f (K + 50) j0 j1 j2 j3 j4 j5 j6 j7 j8 j9 j10 j11 j12 j13 j14 j15 j16 j17 j18 j19 j20 j21 j22 j23 j24 j25 j26 j27 j28 j29 j30 j31 j32 = some v ∧ 0 ≤ v) := by
  rcases q15First K j0 j1 j2 j3 j4 j5 j6 j7 j8 j9 j10 j11 j12 j13 j14 j15 j16 j17 j18 j19 j20 j21 j22 j23 j24 j25 j26 j27 j28 j29 j30 j31 j32 with ⟨v, h1, h2⟩ | ⟨h1, h2⟩
  · refine Or.inr ⟨fun h => ?_, v, h1, h2⟩
    have h3 := q15Ok K j0 j1 j2 j3 j4 j5 j6 j7 j8 j9 j10 j11 j12 j13 j14 j15 j16 j17 j18 j19 j20 j21 j22 j23 j24 j25 j26 j27 j28 j29 j30 j31 j32 h
    rw [h1] at h3
    cases h3
    omega
  · exact Or.inl ⟨h2, h1⟩
theorem q11Panels (c r : Int) (o : Ov) : gatherumref11_Panels.f c r o = some (pan c r) := by rw [← qPanels c r o]; rfl
theorem q22May (K : Nat) (j0 : ByteArray) (j1 j2 j3 j4 j5 j6 j7 j8 j9 j10 j11 j12 j13 : Int) (j14 j15 : Ov) (j16 j17 j18 j19 j20 j21 j22 j23 j24 j25 j26 j27 j28 j29 j30 j31 j32 : Int) (c r : Int) (o : Ov) : (B15 j0 j1 j2 j3 j4 j5 j6 j7 j8 j9 j10 j11 j12 j13 j14 j15 j16 j17 j18 j19 j20 j21 j22 j23 j24 j25 j26 j27 j28 j29 j30 j31 j32 ∧ 0 < pan c r ∧ gatherumref22_May.f (K + 50) j0 j1 j2 j3 j4 j5 j6 j7 j8 j9 j10 j11 j12 j13 j14 j15 j16 j17 j18 j19 j20 j21 j22 j23 j24 j25 j26 j27 j28 j29 j30 j31 j32 c r o = some true) ∨ (¬ (B15 j0 j1 j2 j3 j4 j5 j6 j7 j8 j9 j10 j11 j12 j13 j14 j15 j16 j17 j18 j19 j20 j21 j22 j23 j24 j25 j26 j27 j28 j29 j30 j31 j32 ∧ 0 < pan c r) ∧ gatherumref22_May.f (K + 50) j0 j1 j2 j3 j4 j5 j6 j7 j8 j9 j10 j11 j12 j13 j14 j15 j16 j17 j18 j19 j20 j21 j22 j23 j24 j25 j26 j27 j28 j29 j30 j31 j32 c r o = some false) := by
  unfold gatherumref22_May.f
  rcases q15Both K j0 j1 j2 j3 j4 j5 j6 j7 j8 j9 j10 j11 j12 j13 j14 j15 j16 j17 j18 j19 j20 j21 j22 j23 j24 j25 j26 j27 j28 j29 j30 j31 j32 with ⟨h, e⟩ | ⟨h, v, e, hv⟩
  · rw [e, Option.bind_some, if_pos (by decide), q11Panels, Option.bind_some]
    by_cases hp : 0 < pan c r
    · exact Or.inl ⟨h, hp, by simp [hp]⟩
    · exact Or.inr ⟨fun h => hp h.2, by simp [hp]⟩
  · rw [e, Option.bind_some, if_neg (by simp; omega)]
    exact Or.inr ⟨fun h' => h h'.1, rfl⟩
theorem qPlates (s : Int) : style_Plates.f s = some (plt s) := by
  unfold style_Plates.f plt
  by_cases h1 : s = 1
  · simp [h1]
  · by_cases h2 : s = 2
    · simp [h2]
    · by_cases h3 : s = 3
      · simp [h3]
      · by_cases h4 : s = 4 <;> simp [h1, h2, h3, h4]
theorem qbFirst (j0 : ByteArray) (j1 j2 j3 j4 j5 j6 j7 j8 j9 j10 j11 j12 j13 : Int) (j14 j15 : Ov) (j16 j17 j18 j19 j20 j21 j22 j23 j24 j25 j26 j27 j28 j29 j30 j31 j32 : Int) : (B15 j0 j1 j2 j3 j4 j5 j6 j7 j8 j9 j10 j11 j12 j13 j14 j15 j16 j17 j18 j19 j20 j21 j22 j23 j24 j25 j26 j27 j28 j29 j30 j31 j32 ∧ bounds_First.f j0 j1 j2 j3 j4 j5 j6 j7 j8 j9 j10 j11 j12 j13 j14 j15 j16 j17 j18 j19 j20 j21 j22 j23 j24 j25 j26 j27 j28 j29 j30 j31 j32 = some (-1)) ∨ (¬ B15 j0 j1 j2 j3 j4 j5 j6 j7 j8 j9 j10 j11 j12 j13 j14 j15 j16 j17 j18 j19 j20 j21 j22 j23 j24 j25 j26 j27 j28 j29 j30 j31 j32 ∧ ∃ v, bounds_First.f j0 j1 j2 j3 j4 j5 j6 j7 j8 j9 j10 j11 j12 j13 j14 j15 j16 j17 j18 j19 j20 j21 j22 j23 j24 j25 j26 j27 j28 j29 j30 j31 j32 = some v ∧ 0 ≤ v) := by
  unfold bounds_First.f
  simp only [qIn, Option.bind_some]
  rcases Classical.em (1 ≤ j1 ∧ j1 ≤ 100000) with h0 | h0
  case inr => exact Or.inr ⟨fun h => h0 h.1, 0, by rw [if_pos (ndec h0)], by omega⟩
  rw [if_neg (pdec h0)]
  rcases Classical.em (-5000000 ≤ j2 ∧ j2 ≤ 5000000) with h1 | h1
  case inr => exact Or.inr ⟨fun h => h1 h.2.1, 1, by rw [if_pos (ndec h1)], by omega⟩
  rw [if_neg (pdec h1)]
  rcases Classical.em (-5000000 ≤ j3 ∧ j3 ≤ 5000000) with h2 | h2
  case inr => exact Or.inr ⟨fun h => h2 h.2.2.1, 2, by rw [if_pos (ndec h2)], by omega⟩
  rw [if_neg (pdec h2)]
  rcases Classical.em (1 ≤ j4 ∧ j4 ≤ 5000000) with h3 | h3
  case inr => exact Or.inr ⟨fun h => h3 h.2.2.2.1, 3, by rw [if_pos (ndec h3)], by omega⟩
  rw [if_neg (pdec h3)]
  rcases Classical.em (1 ≤ j5 ∧ j5 ≤ 5000000) with h4 | h4
  case inr => exact Or.inr ⟨fun h => h4 h.2.2.2.2.1, 4, by rw [if_pos (ndec h4)], by omega⟩
  rw [if_neg (pdec h4)]
  rcases Classical.em (0 ≤ j6 ∧ j6 ≤ 5000000) with h5 | h5
  case inr => exact Or.inr ⟨fun h => h5 h.2.2.2.2.2.1, 5, by rw [if_pos (ndec h5)], by omega⟩
  rw [if_neg (pdec h5)]
  rcases Classical.em (0 ≤ j7 ∧ j7 ≤ 5000000) with h6 | h6
  case inr => exact Or.inr ⟨fun h => h6 h.2.2.2.2.2.2.1, 6, by rw [if_pos (ndec h6)], by omega⟩
  rw [if_neg (pdec h6)]
  rcases Classical.em (0 ≤ j8 ∧ j8 ≤ 5000000) with h7 | h7
  case inr => exact Or.inr ⟨fun h => h7 h.2.2.2.2.2.2.2.1, 7, by rw [if_pos (ndec h7)], by omega⟩
  rw [if_neg (pdec h7)]
  rcases Classical.em (0 ≤ j9 ∧ j9 ≤ 5000000) with h8 | h8
  case inr => exact Or.inr ⟨fun h => h8 h.2.2.2.2.2.2.2.2.1, 8, by rw [if_pos (ndec h8)], by omega⟩
  rw [if_neg (pdec h8)]
  rcases Classical.em (0 ≤ j10 ∧ j10 ≤ 5000000) with h9 | h9
  case inr => exact Or.inr ⟨fun h => h9 h.2.2.2.2.2.2.2.2.2.1, 9, by rw [if_pos (ndec h9)], by omega⟩
  rw [if_neg (pdec h9)]
  rcases Classical.em (1 ≤ j11 ∧ j11 ≤ 4) with h10 | h10
  case inr => exact Or.inr ⟨fun h => h10 h.2.2.2.2.2.2.2.2.2.2.1, 10, by rw [if_pos (ndec h10)], by omega⟩
  rw [if_neg (pdec h10)]
  rcases Classical.em (1 ≤ j16 ∧ j16 ≤ 4) with h11 | h11
  case inr => exact Or.inr ⟨fun h => h11 h.2.2.2.2.2.2.2.2.2.2.2.1, 11, by rw [if_pos (ndec h11)], by omega⟩
  rw [if_neg (pdec h11)]
  rcases Classical.em (1 ≤ j17 ∧ j17 ≤ 5000000) with h12 | h12
  case inr => exact Or.inr ⟨fun h => h12 h.2.2.2.2.2.2.2.2.2.2.2.2.1, 12, by rw [if_pos (ndec h12)], by omega⟩
  rw [if_neg (pdec h12)]
  rcases Classical.em (1 ≤ j18 ∧ j18 ≤ 5000000) with h13 | h13
  case inr => exact Or.inr ⟨fun h => h13 h.2.2.2.2.2.2.2.2.2.2.2.2.2.1, 13, by rw [if_pos (ndec h13)], by omega⟩
  rw [if_neg (pdec h13)]
  rcases Classical.em (0 ≤ j19 ∧ j19 ≤ 5000000) with h14 | h14
  case inr => exact Or.inr ⟨fun h => h14 h.2.2.2.2.2.2.2.2.2.2.2.2.2.2.1, 14, by rw [if_pos (ndec h14)], by omega⟩
  rw [if_neg (pdec h14)]
  rcases Classical.em (0 ≤ j20 ∧ j20 ≤ 5000000) with h15 | h15
  case inr => exact Or.inr ⟨fun h => h15 h.2.2.2.2.2.2.2.2.2.2.2.2.2.2.2.1, 15, by rw [if_pos (ndec h15)], by omega⟩
  rw [if_neg (pdec h15)]
  rcases Classical.em (0 ≤ j21 ∧ j21 ≤ 5000000) with h16 | h16
  case inr => exact Or.inr ⟨fun h => h16 h.2.2.2.2.2.2.2.2.2.2.2.2.2.2.2.2.1, 16, by rw [if_pos (ndec h16)], by omega⟩
  rw [if_neg (pdec h16)]
  rcases Classical.em (0 ≤ j22 ∧ j22 ≤ 100000) with h17 | h17
  case inr => exact Or.inr ⟨fun h => h17 h.2.2.2.2.2.2.2.2.2.2.2.2.2.2.2.2.2.1, 17, by rw [if_pos (ndec h17)], by omega⟩
  rw [if_neg (pdec h17)]
  rcases Classical.em (0 ≤ j23 ∧ j23 ≤ 1000) with h18 | h18
  case inr => exact Or.inr ⟨fun h => h18 h.2.2.2.2.2.2.2.2.2.2.2.2.2.2.2.2.2.2.1, 18, by rw [if_pos (ndec h18)], by omega⟩
  rw [if_neg (pdec h18)]
  rcases Classical.em (1 ≤ j24 ∧ j24 ≤ 1000) with h19 | h19
  case inr => exact Or.inr ⟨fun h => h19 h.2.2.2.2.2.2.2.2.2.2.2.2.2.2.2.2.2.2.2.1, 19, by rw [if_pos (ndec h19)], by omega⟩
  rw [if_neg (pdec h19)]
  rcases Classical.em (0 ≤ j25 ∧ j25 ≤ 3) with h20 | h20
  case inr => exact Or.inr ⟨fun h => h20 h.2.2.2.2.2.2.2.2.2.2.2.2.2.2.2.2.2.2.2.2.1, 20, by rw [if_pos (ndec h20)], by omega⟩
  rw [if_neg (pdec h20)]
  rcases Classical.em (0 ≤ j26 ∧ j26 ≤ 5000000) with h21 | h21
  case inr => exact Or.inr ⟨fun h => h21 h.2.2.2.2.2.2.2.2.2.2.2.2.2.2.2.2.2.2.2.2.2.1, 21, by rw [if_pos (ndec h21)], by omega⟩
  rw [if_neg (pdec h21)]
  rcases Classical.em (0 ≤ j27 ∧ j27 ≤ 5000000) with h22 | h22
  case inr => exact Or.inr ⟨fun h => h22 h.2.2.2.2.2.2.2.2.2.2.2.2.2.2.2.2.2.2.2.2.2.2.1, 22, by rw [if_pos (ndec h22)], by omega⟩
  rw [if_neg (pdec h22)]
  rcases Classical.em (0 ≤ j28 ∧ j28 ≤ 5000000) with h23 | h23
  case inr => exact Or.inr ⟨fun h => h23 h.2.2.2.2.2.2.2.2.2.2.2.2.2.2.2.2.2.2.2.2.2.2.2.1, 23, by rw [if_pos (ndec h23)], by omega⟩
  rw [if_neg (pdec h23)]
  rcases Classical.em (0 ≤ j29 ∧ j29 ≤ 5000000) with h24 | h24
  case inr => exact Or.inr ⟨fun h => h24 h.2.2.2.2.2.2.2.2.2.2.2.2.2.2.2.2.2.2.2.2.2.2.2.2.1, 24, by rw [if_pos (ndec h24)], by omega⟩
  rw [if_neg (pdec h24)]
  rcases Classical.em (0 ≤ j30 ∧ j30 ≤ 5000000) with h25 | h25
  case inr => exact Or.inr ⟨fun h => h25 h.2.2.2.2.2.2.2.2.2.2.2.2.2.2.2.2.2.2.2.2.2.2.2.2.2.1, 25, by rw [if_pos (ndec h25)], by omega⟩
  rw [if_neg (pdec h25)]
  rcases Classical.em (1 ≤ j31 ∧ j31 ≤ 1000) with h26 | h26
  case inr => exact Or.inr ⟨fun h => h26 h.2.2.2.2.2.2.2.2.2.2.2.2.2.2.2.2.2.2.2.2.2.2.2.2.2.2.1, 26, by rw [if_pos (ndec h26)], by omega⟩
  rw [if_neg (pdec h26)]
  rcases Classical.em (0 ≤ j32 ∧ j32 ≤ 5000000) with h27 | h27
  case inr => exact Or.inr ⟨fun h => h27 h.2.2.2.2.2.2.2.2.2.2.2.2.2.2.2.2.2.2.2.2.2.2.2.2.2.2.2, 27, by rw [if_pos (ndec h27)], by omega⟩
  rw [if_neg (pdec h27)]
  exact Or.inl ⟨⟨h0, h1, h2, h3, h4, h5, h6, h7, h8, h9, h10, h11, h12, h13, h14, h15, h16, h17, h18, h19, h20, h21, h22, h23, h24, h25, h26, h27⟩, rfl⟩
theorem qMay (j0 : ByteArray) (j1 j2 j3 j4 j5 j6 j7 j8 j9 j10 j11 j12 j13 : Int) (j14 j15 : Ov) (j16 j17 j18 j19 j20 j21 j22 j23 j24 j25 j26 j27 j28 j29 j30 j31 j32 : Int) (c r : Int) (o : Ov) : (B15 j0 j1 j2 j3 j4 j5 j6 j7 j8 j9 j10 j11 j12 j13 j14 j15 j16 j17 j18 j19 j20 j21 j22 j23 j24 j25 j26 j27 j28 j29 j30 j31 j32 ∧ 0 < pan c r ∧ area_may.f j0 j1 j2 j3 j4 j5 j6 j7 j8 j9 j10 j11 j12 j13 j14 j15 j16 j17 j18 j19 j20 j21 j22 j23 j24 j25 j26 j27 j28 j29 j30 j31 j32 c r o = some true) ∨ (¬ (B15 j0 j1 j2 j3 j4 j5 j6 j7 j8 j9 j10 j11 j12 j13 j14 j15 j16 j17 j18 j19 j20 j21 j22 j23 j24 j25 j26 j27 j28 j29 j30 j31 j32 ∧ 0 < pan c r) ∧ area_may.f j0 j1 j2 j3 j4 j5 j6 j7 j8 j9 j10 j11 j12 j13 j14 j15 j16 j17 j18 j19 j20 j21 j22 j23 j24 j25 j26 j27 j28 j29 j30 j31 j32 c r o = some false) := by
  unfold area_may.f
  rcases qbFirst j0 j1 j2 j3 j4 j5 j6 j7 j8 j9 j10 j11 j12 j13 j14 j15 j16 j17 j18 j19 j20 j21 j22 j23 j24 j25 j26 j27 j28 j29 j30 j31 j32 with ⟨h, e⟩ | ⟨h, v, e, hv⟩
  · rw [e, Option.bind_some, if_pos (by decide), qPanels, Option.bind_some]
    by_cases hp : 0 < pan c r
    · exact Or.inl ⟨h, hp, by simp [hp]⟩
    · exact Or.inr ⟨fun h => hp h.2, by simp [hp]⟩
  · rw [e, Option.bind_some, if_neg (by simp; omega)]
    exact Or.inr ⟨fun h' => h h'.1, rfl⟩
theorem qSize (j0 : ByteArray) (j1 j2 j3 j4 j5 j6 j7 j8 j9 j10 j11 j12 j13 : Int) (j14 j15 : Ov) (j16 j17 j18 j19 j20 j21 j22 j23 j24 j25 j26 j27 j28 j29 j30 j31 j32 : Int) : panel_Size.f j0 j1 j2 j3 j4 j5 j6 j7 j8 j9 j10 j11 j12 j13 j14 j15 j16 j17 j18 j19 j20 j21 j22 j23 j24 j25 j26 j27 j28 j29 j30 j31 j32 = some (psz j4 j9 j10 j5 j7 j8) := rfl
/-- A block's size. -/
def blk (w h c r n : Int) : Int × Int := (wrap64 (w * c), wrap64 (wrap64 (h * r) * n))
/-- How many copies. -/
def cps (b : Int) : Int := if b = 4 then 2 else 1
theorem qBlock (j0 : ByteArray) (j1 j2 j3 j4 j5 j6 j7 j8 j9 j10 j11 j12 j13 : Int) (j14 j15 : Ov) (j16 j17 j18 j19 j20 j21 j22 j23 j24 j25 j26 j27 j28 j29 j30 j31 j32 : Int) (c r : Int) (o : Ov) (n : Int) : panel_Block.f j0 j1 j2 j3 j4 j5 j6 j7 j8 j9 j10 j11 j12 j13 j14 j15 j16 j17 j18 j19 j20 j21 j22 j23 j24 j25 j26 j27 j28 j29 j30 j31 j32 c r o n = some (blk (psz j4 j9 j10 j5 j7 j8).1 (psz j4 j9 j10 j5 j7 j8).2 c r n) := rfl
/-- A block as it is turned. -/
def out (q : Int) (b : Int × Int) : Int × Int := if Int.tmod q 2 = 1 then (b.2, b.1) else b
/-- Where a block lies. -/
def att (q : Int) (g : Int × Int × Int × Int) (o : Int × Int) : Int × Int × Int :=
  (q, if q = 1 ∨ q = 2 then wrap64 (wrap64 (g.1 + wrap64 (wrap64 (g.2.2.1 - g.1) - o.1) / 2) + o.1) else wrap64 (g.1 + wrap64 (wrap64 (g.2.2.1 - g.1) - o.1) / 2),
    if q = 2 ∨ q = 3 then wrap64 (wrap64 (g.2.1 + wrap64 (wrap64 (g.2.2.2 - g.2.1) - o.2) / 2) + o.2) else wrap64 (g.2.1 + wrap64 (wrap64 (g.2.2.2 - g.2.1) - o.2) / 2))
theorem att_R (q : Int) (g : Int × Int × Int × Int) (o : Int × Int) : R (att q g o).2.1 ∧ R (att q g o).2.2 := by
  refine ⟨?_, ?_⟩
  · show R (if q = 1 ∨ q = 2 then _ else _)
    by_cases h : q = 1 ∨ q = 2
    · rw [if_pos h]; exact R_wrap _
    · rw [if_neg h]; exact R_wrap _
  · show R (if q = 2 ∨ q = 3 then _ else _)
    by_cases h : q = 2 ∨ q = 3
    · rw [if_pos h]; exact R_wrap _
    · rw [if_neg h]; exact R_wrap _
theorem blk_bounds (w h c r n : Int) (hw : 1 ≤ w ∧ w ≤ 15000000) (hh : 1 ≤ h ∧ h ≤ 15000000) (hc : 1 ≤ c ∧ c ≤ 64) (hr : 1 ≤ r ∧ r ≤ 64) (hn : n = 1 ∨ n = 2) : blk w h c r n = (w * c, h * r * n) ∧ (1 ≤ w * c ∧ w * c ≤ 960000000) ∧ (1 ≤ h * r * n ∧ h * r * n ≤ 1920000000) := by
  have m1 : 1 * 1 ≤ w * c := Int.mul_le_mul hw.1 hc.1 (by omega) (by omega)
  have m2 : w * c ≤ 15000000 * 64 := Int.mul_le_mul hw.2 hc.2 (by omega) (by omega)
  have m3 : 1 * 1 ≤ h * r := Int.mul_le_mul hh.1 hr.1 (by omega) (by omega)
  have m4 : h * r ≤ 15000000 * 64 := Int.mul_le_mul hh.2 hr.2 (by omega) (by omega)
  have e1 : wrap64 (w * c) = w * c := wrap_id (by omega) (by omega)
  have e2 : wrap64 (h * r) = h * r := wrap_id (by omega) (by omega)
  unfold blk
  rw [e1, e2]
  generalize h * r = x at *
  generalize w * c = y at *
  rcases hn with rfl | rfl
  · rw [wrap_id (n := x * 1) (by omega) (by omega)]; exact ⟨rfl, by omega, by omega⟩
  · rw [wrap_id (n := x * 2) (by omega) (by omega)]; exact ⟨rfl, by omega, by omega⟩
theorem cps_or (b : Int) : cps b = 1 ∨ cps b = 2 := by unfold cps; split <;> simp
/-- What a well job's panel is. -/
theorem psz_ok (j0 : ByteArray) (j1 j2 j3 j4 j5 j6 j7 j8 j9 j10 j11 j12 j13 : Int) (j14 j15 : Ov) (j16 j17 j18 j19 j20 j21 j22 j23 j24 j25 j26 j27 j28 j29 j30 j31 j32 : Int) (h : B15 j0 j1 j2 j3 j4 j5 j6 j7 j8 j9 j10 j11 j12 j13 j14 j15 j16 j17 j18 j19 j20 j21 j22 j23 j24 j25 j26 j27 j28 j29 j30 j31 j32) : psz j4 j9 j10 j5 j7 j8 = (j10 + j4 + j9, j8 + j5 + j7) ∧ (1 ≤ j10 + j4 + j9 ∧ j10 + j4 + j9 ≤ 15000000) ∧ (1 ≤ j8 + j5 + j7 ∧ j8 + j5 + j7 ≤ 15000000) := by
  obtain ⟨-, -, -, b4, b5, b6, b7, b8, b9, b10, -⟩ := h
  unfold psz
  rw [wrap_id (n := j10 + j4) (by omega) (by omega), wrap_id (n := j8 + j5) (by omega) (by omega), wrap_id (n := j10 + j4 + j9) (by omega) (by omega), wrap_id (n := j8 + j5 + j7) (by omega) (by omega)]
  exact ⟨rfl, by omega, by omega⟩
theorem may_blk (j0 : ByteArray) (j1 j2 j3 j4 j5 j6 j7 j8 j9 j10 j11 j12 j13 : Int) (j14 j15 : Ov) (j16 j17 j18 j19 j20 j21 j22 j23 j24 j25 j26 j27 j28 j29 j30 j31 j32 : Int) (c r : Int) (h : B15 j0 j1 j2 j3 j4 j5 j6 j7 j8 j9 j10 j11 j12 j13 j14 j15 j16 j17 j18 j19 j20 j21 j22 j23 j24 j25 j26 j27 j28 j29 j30 j31 j32) (hp : 0 < pan c r) : (1 ≤ (blk (psz j4 j9 j10 j5 j7 j8).1 (psz j4 j9 j10 j5 j7 j8).2 c r (cps j11)).1 ∧ (blk (psz j4 j9 j10 j5 j7 j8).1 (psz j4 j9 j10 j5 j7 j8).2 c r (cps j11)).1 ≤ 960000000) ∧ (1 ≤ (blk (psz j4 j9 j10 j5 j7 j8).1 (psz j4 j9 j10 j5 j7 j8).2 c r (cps j11)).2 ∧ (blk (psz j4 j9 j10 j5 j7 j8).1 (psz j4 j9 j10 j5 j7 j8).2 c r (cps j11)).2 ≤ 1920000000) := by
  obtain ⟨e, h1, h2⟩ := psz_ok j0 j1 j2 j3 j4 j5 j6 j7 j8 j9 j10 j11 j12 j13 j14 j15 j16 j17 j18 j19 j20 j21 j22 j23 j24 j25 j26 j27 j28 j29 j30 j31 j32 h
  have hc := pan_pos hp
  rw [e]
  obtain ⟨e', h3, h4⟩ := blk_bounds _ _ c r (cps j11) h1 h2 hc.1 hc.2 (cps_or j11)
  rw [e']
  exact ⟨h3, h4⟩
theorem may_q (j0 : ByteArray) (j1 j2 j3 j4 j5 j6 j7 j8 j9 j10 j11 j12 j13 : Int) (j14 j15 : Ov) (j16 j17 j18 j19 j20 j21 j22 j23 j24 j25 j26 j27 j28 j29 j30 j31 j32 : Int) (h : B15 j0 j1 j2 j3 j4 j5 j6 j7 j8 j9 j10 j11 j12 j13 j14 j15 j16 j17 j18 j19 j20 j21 j22 j23 j24 j25 j26 j27 j28 j29 j30 j31 j32) : 0 ≤ j25 ∧ j25 ≤ 3 := by
  obtain ⟨-, -, -, -, -, -, -, -, -, -, -, -, -, -, -, -, -, -, -, -, b, -⟩ := h
  exact b
theorem may_s (j0 : ByteArray) (j1 j2 j3 j4 j5 j6 j7 j8 j9 j10 j11 j12 j13 : Int) (j14 j15 : Ov) (j16 j17 j18 j19 j20 j21 j22 j23 j24 j25 j26 j27 j28 j29 j30 j31 j32 : Int) (h : B15 j0 j1 j2 j3 j4 j5 j6 j7 j8 j9 j10 j11 j12 j13 j14 j15 j16 j17 j18 j19 j20 j21 j22 j23 j24 j25 j26 j27 j28 j29 j30 j31 j32) : 1 ≤ j16 ∧ j16 ≤ 4 := by
  obtain ⟨-, -, -, -, -, -, -, -, -, -, -, b, -⟩ := h
  exact b
theorem qWhole (j0 : ByteArray) (j1 j2 j3 j4 j5 j6 j7 j8 j9 j10 j11 j12 j13 : Int) (j14 j15 : Ov) (j16 j17 j18 j19 j20 j21 j22 j23 j24 j25 j26 j27 j28 j29 j30 j31 j32 : Int) (c r : Int) (o : Ov) : area_whole.f j0 j1 j2 j3 j4 j5 j6 j7 j8 j9 j10 j11 j12 j13 j14 j15 j16 j17 j18 j19 j20 j21 j22 j23 j24 j25 j26 j27 j28 j29 j30 j31 j32 c r o = some (0, 0, (blk (psz j4 j9 j10 j5 j7 j8).1 (psz j4 j9 j10 j5 j7 j8).2 c r (cps j11)).1, (blk (psz j4 j9 j10 j5 j7 j8).1 (psz j4 j9 j10 j5 j7 j8).2 c r (cps j11)).2) := by
  unfold area_whole.f area_copies.f
  have e (b : Int × Int) : wrap64 (0 + wrap64 b.1) = wrap64 b.1 := by rw [Int.zero_add, wrap_wrap]
  by_cases h : j11 = 4
  · simp [h, qBlock, box_Of.f, cps, blk, wrap_wrap]
  · simp [h, qBlock, box_Of.f, cps, blk, wrap_wrap]
theorem blk_R (w h c r n : Int) : R (blk w h c r n).1 ∧ R (blk w h c r n).2 := ⟨R_wrap _, R_wrap _⟩
theorem qOuterNo (j0 : ByteArray) (j1 j2 j3 j4 j5 j6 j7 j8 j9 j10 j11 j12 j13 : Int) (j14 j15 : Ov) (j16 j17 j18 j19 j20 j21 j22 j23 j24 j25 j26 j27 j28 j29 j30 j31 j32 : Int) (c r : Int) (o : Ov) (h : ¬ (B15 j0 j1 j2 j3 j4 j5 j6 j7 j8 j9 j10 j11 j12 j13 j14 j15 j16 j17 j18 j19 j20 j21 j22 j23 j24 j25 j26 j27 j28 j29 j30 j31 j32 ∧ 0 < pan c r)) : area_Outer.f j0 j1 j2 j3 j4 j5 j6 j7 j8 j9 j10 j11 j12 j13 j14 j15 j16 j17 j18 j19 j20 j21 j22 j23 j24 j25 j26 j27 j28 j29 j30 j31 j32 c r o = some (0, 0) := by
  unfold area_Outer.f
  rcases qMay j0 j1 j2 j3 j4 j5 j6 j7 j8 j9 j10 j11 j12 j13 j14 j15 j16 j17 j18 j19 j20 j21 j22 j23 j24 j25 j26 j27 j28 j29 j30 j31 j32 c r o with ⟨h1, h2, e⟩ | ⟨_, e⟩
  · exact absurd ⟨h1, h2⟩ h
  · rw [e]; rfl
theorem qOuter (j0 : ByteArray) (j1 j2 j3 j4 j5 j6 j7 j8 j9 j10 j11 j12 j13 : Int) (j14 j15 : Ov) (j16 j17 j18 j19 j20 j21 j22 j23 j24 j25 j26 j27 j28 j29 j30 j31 j32 : Int) (c r : Int) (o : Ov) (h : B15 j0 j1 j2 j3 j4 j5 j6 j7 j8 j9 j10 j11 j12 j13 j14 j15 j16 j17 j18 j19 j20 j21 j22 j23 j24 j25 j26 j27 j28 j29 j30 j31 j32) (hp : 0 < pan c r) : area_Outer.f j0 j1 j2 j3 j4 j5 j6 j7 j8 j9 j10 j11 j12 j13 j14 j15 j16 j17 j18 j19 j20 j21 j22 j23 j24 j25 j26 j27 j28 j29 j30 j31 j32 c r o = some (out j25 (blk (psz j4 j9 j10 j5 j7 j8).1 (psz j4 j9 j10 j5 j7 j8).2 c r (cps j11))) := by
  unfold area_Outer.f
  rcases qMay j0 j1 j2 j3 j4 j5 j6 j7 j8 j9 j10 j11 j12 j13 j14 j15 j16 j17 j18 j19 j20 j21 j22 j23 j24 j25 j26 j27 j28 j29 j30 j31 j32 c r o with ⟨h1, h2, e⟩ | ⟨h', _⟩
  case inr => exact absurd ⟨h, hp⟩ h'
  have hq := may_q j0 j1 j2 j3 j4 j5 j6 j7 j8 j9 j10 j11 j12 j13 j14 j15 j16 j17 j18 j19 j20 j21 j22 j23 j24 j25 j26 j27 j28 j29 j30 j31 j32 h
  have hR := blk_R (psz j4 j9 j10 j5 j7 j8).1 (psz j4 j9 j10 j5 j7 j8).2 c r (cps j11)
  rw [e, Option.bind_some, if_neg (by decide), qWhole, Option.bind_some]
  generalize (blk (psz j4 j9 j10 j5 j7 j8).1 (psz j4 j9 j10 j5 j7 j8).2 c r (cps j11)) = b at *
  simp only [box_Size.f, turn_Swaps.f, Option.bind_some, Int.sub_zero, R_id hR.1, R_id hR.2, and1, out]
  have hc : j25 = 0 ∨ j25 = 1 ∨ j25 = 2 ∨ j25 = 3 := by omega
  rcases hc with e | e | e | e <;> rw [e] <;> rfl
theorem qacross (s : Int) : style_across.f s = some (decide (s = 2 ∨ s = 4)) := by
  unfold style_across.f
  by_cases h : s = 2 <;> by_cases h' : s = 4 <;> simp [h, h']
theorem qArea (j0 : ByteArray) (j1 j2 j3 j4 j5 j6 j7 j8 j9 j10 j11 j12 j13 : Int) (j14 j15 : Ov) (j16 j17 j18 j19 j20 j21 j22 j23 j24 j25 j26 j27 j28 j29 j30 j31 j32 : Int) : style_Area.f j0 j1 j2 j3 j4 j5 j6 j7 j8 j9 j10 j11 j12 j13 j14 j15 j16 j17 j18 j19 j20 j21 j22 j23 j24 j25 j26 j27 j28 j29 j30 j31 j32 = some (are j16 j17 j18 j19 j20 j21) := by
  unfold style_Area.f are
  simp only [qPlates, qacross, Option.bind_some]
  have e : mxi j20 j21 = max j20 j21 := by unfold mxi; split <;> omega
  by_cases h : plt j16 = 0
  · simp [h]
  · by_cases h' : j16 = 2 ∨ j16 = 4 <;> simp [h, h', e]
theorem qRegion (j0 : ByteArray) (j1 j2 j3 j4 j5 j6 j7 j8 j9 j10 j11 j12 j13 : Int) (j14 j15 : Ov) (j16 j17 j18 j19 j20 j21 j22 j23 j24 j25 j26 j27 j28 j29 j30 j31 j32 : Int) : style_Region.f j0 j1 j2 j3 j4 j5 j6 j7 j8 j9 j10 j11 j12 j13 j14 j15 j16 j17 j18 j19 j20 j21 j22 j23 j24 j25 j26 j27 j28 j29 j30 j31 j32 = some (reg j16 j17 j18 (are j16 j17 j18 j19 j20 j21)) := by
  unfold style_Region.f
  simp only [qArea, Option.bind_some, reg, mni_eq]
  by_cases h : j16 = 3
  · simp [h]
  · by_cases h' : j16 = 4 <;> simp [h, h']
theorem qTurnDo (K : Nat) (t x y : Int) (hx : R x) (hy : R y) : turn_Do.f (K + 50) t x y = some (D t x y) := by
  have h4 : t % 4 = t % 8 % 4 := by omega
  rcases eight t with h | h | h | h | h | h | h | h <;> rw [h] at h4 <;>
    simp [turn_Do.f, turn_Mirrors.f, and4, and3, h, h4, turn_Do.l0, turn_Do.l1, D, wl1, wl2, wl3, wnn hx, wnn hy]
theorem qPlaceDo (K : Nat) (t ax ay x y : Int) (hx : R x) (hy : R y) : place_Do.f (K + 50) t ax ay x y = some (wrap64 ((D t x y).1 + ax), wrap64 ((D t x y).2 + ay)) := by
  simp only [place_Do.f, qTurnDo K _ _ _ hx hy, Option.bind_some]
theorem qPlaceBox (K : Nat) (t ax ay a b c d : Int) (ha : R a) (hb : R b) (hc : R c) (hd : R d) : place_Box.f (K + 50) t ax ay a b c d = some (bxm t ax ay a b c d) := by
  simp only [place_Box.f, qPlaceDo K _ _ _ _ _ ha hb, qPlaceDo K _ _ _ _ _ hc hd, Option.bind_some, mni_eq, mxi_eq, bxm]
theorem qTurnThen (a b : Int) : turn_Then.f a b = some (th a b) := by
  unfold turn_Then.f turn_Mirrors.f th
  simp only [Option.bind_some, xor4, and3, wrap_m4, or34 _ _ (c04 _)]
  simp only [and4]
  by_cases h : b % 8 < 4 <;> simp [h]
theorem qPlaceThen (K : Nat) (t x y t' x' y' : Int) (hx : R x) (hy : R y) : place_Then.f (K + 50) t x y t' x' y' = some (th t t', wrap64 ((D t' x y).1 + x'), wrap64 ((D t' x y).2 + y')) := by
  simp only [place_Then.f, qPlaceDo K _ _ _ _ _ hx hy, qTurnThen, Option.bind_some]
theorem qAtNo (K : Nat) (j0 : ByteArray) (j1 j2 j3 j4 j5 j6 j7 j8 j9 j10 j11 j12 j13 : Int) (j14 j15 : Ov) (j16 j17 j18 j19 j20 j21 j22 j23 j24 j25 j26 j27 j28 j29 j30 j31 j32 : Int) (c r : Int) (o : Ov) (h : ¬ (B15 j0 j1 j2 j3 j4 j5 j6 j7 j8 j9 j10 j11 j12 j13 j14 j15 j16 j17 j18 j19 j20 j21 j22 j23 j24 j25 j26 j27 j28 j29 j30 j31 j32 ∧ 0 < pan c r)) : area_At.f (K + 50) j0 j1 j2 j3 j4 j5 j6 j7 j8 j9 j10 j11 j12 j13 j14 j15 j16 j17 j18 j19 j20 j21 j22 j23 j24 j25 j26 j27 j28 j29 j30 j31 j32 c r o = some (0, 0, 0) := by
  unfold area_At.f
  rcases qMay j0 j1 j2 j3 j4 j5 j6 j7 j8 j9 j10 j11 j12 j13 j14 j15 j16 j17 j18 j19 j20 j21 j22 j23 j24 j25 j26 j27 j28 j29 j30 j31 j32 c r o with ⟨h1, h2, e⟩ | ⟨_, e⟩
  · exact absurd ⟨h1, h2⟩ h
  · rw [e]; rfl
theorem qAt (K : Nat) (j0 : ByteArray) (j1 j2 j3 j4 j5 j6 j7 j8 j9 j10 j11 j12 j13 : Int) (j14 j15 : Ov) (j16 j17 j18 j19 j20 j21 j22 j23 j24 j25 j26 j27 j28 j29 j30 j31 j32 : Int) (c r : Int) (o : Ov) (h : B15 j0 j1 j2 j3 j4 j5 j6 j7 j8 j9 j10 j11 j12 j13 j14 j15 j16 j17 j18 j19 j20 j21 j22 j23 j24 j25 j26 j27 j28 j29 j30 j31 j32) (hp : 0 < pan c r) : area_At.f (K + 50) j0 j1 j2 j3 j4 j5 j6 j7 j8 j9 j10 j11 j12 j13 j14 j15 j16 j17 j18 j19 j20 j21 j22 j23 j24 j25 j26 j27 j28 j29 j30 j31 j32 c r o = some (att j25 (reg j16 j17 j18 (are j16 j17 j18 j19 j20 j21)) (out j25 (blk (psz j4 j9 j10 j5 j7 j8).1 (psz j4 j9 j10 j5 j7 j8).2 c r (cps j11)))) := by
  unfold area_At.f
  rcases qMay j0 j1 j2 j3 j4 j5 j6 j7 j8 j9 j10 j11 j12 j13 j14 j15 j16 j17 j18 j19 j20 j21 j22 j23 j24 j25 j26 j27 j28 j29 j30 j31 j32 c r o with ⟨h1, h2, e⟩ | ⟨h', _⟩
  case inr => exact absurd ⟨h, hp⟩ h'
  have hq := may_q j0 j1 j2 j3 j4 j5 j6 j7 j8 j9 j10 j11 j12 j13 j14 j15 j16 j17 j18 j19 j20 j21 j22 j23 j24 j25 j26 j27 j28 j29 j30 j31 j32 h
  have hB := may_blk j0 j1 j2 j3 j4 j5 j6 j7 j8 j9 j10 j11 j12 j13 j14 j15 j16 j17 j18 j19 j20 j21 j22 j23 j24 j25 j26 j27 j28 j29 j30 j31 j32 c r h hp
  have R0 : R 0 := by unfold R; omega
  have hR := blk_R (psz j4 j9 j10 j5 j7 j8).1 (psz j4 j9 j10 j5 j7 j8).2 c r (cps j11)
  rw [e, Option.bind_some, if_neg (by decide), qOuter j0 j1 j2 j3 j4 j5 j6 j7 j8 j9 j10 j11 j12 j13 j14 j15 j16 j17 j18 j19 j20 j21 j22 j23 j24 j25 j26 j27 j28 j29 j30 j31 j32 c r o h hp, Option.bind_some, qRegion, Option.bind_some, qWhole]
  generalize (blk (psz j4 j9 j10 j5 j7 j8).1 (psz j4 j9 j10 j5 j7 j8).2 c r (cps j11)) = b at *
  generalize (reg j16 j17 j18 (are j16 j17 j18 j19 j20 j21)) = g
  simp only [box_Size.f, Option.bind_some, qPlaceBox K _ _ _ _ _ _ _ R0 R0 hR.1 hR.2, place_Move.f, qPlaceThen K _ _ _ _ _ _ R0 R0]
  obtain ⟨bw, bh⟩ := b
  simp only at hB
  have e0 (x : Int) : wrap64 (0 + wrap64 x) = wrap64 x := by rw [Int.zero_add, wrap_wrap]
  have hc : j25 = 0 ∨ j25 = 1 ∨ j25 = 2 ∨ j25 = 3 := by omega
  have n1 : wrap64 (-bw) = -bw := wrap_id (by omega) (by omega)
  have n2 : wrap64 (-bh) = -bh := wrap_id (by omega) (by omega)
  have n3 : wrap64 bw = bw := wrap_id (by omega) (by omega)
  have n4 : wrap64 bh = bh := wrap_id (by omega) (by omega)
  have m1 : min 0 bw = 0 := by omega
  have m2 : min 0 bh = 0 := by omega
  have m3 : min 0 (-bw) = -bw := by omega
  have m4 : min 0 (-bh) = -bh := by omega
  rcases hc with e | e | e | e <;> rw [e] <;>
    simp [out, att, th, bxm, D, n1, n2, n3, n4, m1, m2, m3, m4, wl0, wrap_wrap, Int.sub_neg]
theorem qFlip (j0 : ByteArray) (j1 j2 j3 j4 j5 j6 j7 j8 j9 j10 j11 j12 j13 : Int) (j14 j15 : Ov) (j16 j17 j18 j19 j20 j21 j22 j23 j24 j25 j26 j27 j28 j29 j30 j31 j32 : Int) : style_Flip.f j0 j1 j2 j3 j4 j5 j6 j7 j8 j9 j10 j11 j12 j13 j14 j15 j16 j17 j18 j19 j20 j21 j22 j23 j24 j25 j26 j27 j28 j29 j30 j31 j32 = some (flp j16 j17 j18) := by
  unfold style_Flip.f
  simp only [qPlates, qacross, Option.bind_some, place_FlipY.f, place_FlipX.f, flp]
  by_cases h : plt j16 = 0
  · simp [h]
  · by_cases h' : j16 = 2 ∨ j16 = 4 <;> simp [h, h']
theorem qTurnBack (a : Int) : turn_Back.f a = some (bk a) := by
  unfold turn_Back.f turn_Mirrors.f bk
  simp only [Option.bind_some, and4, and7, and3]
  by_cases h : a % 8 < 4
  · simp [h]; unfold wrap64; omega
  · simp [h]
theorem qPlaceBack (K : Nat) (t x y : Int) (hx : R x) (hy : R y) : place_Back.f (K + 50) t x y = some (bk t, wrap64 (-(D (bk t) x y).1), wrap64 (-(D (bk t) x y).2)) := by
  simp only [place_Back.f, qTurnBack, qTurnDo K _ _ _ hx hy, Option.bind_some, Int.zero_sub]
theorem q04_high (a b : Int) : gatherumref04_high.f a b = some (max a b) := by
  unfold gatherumref04_high.f
  by_cases h : b < a
  · rw [if_pos (by simpa using h)]; congr 1; omega
  · rw [if_neg (by simpa using h)]; congr 1; omega
theorem q04_low (a b : Int) : gatherumref04_low.f a b = some (min a b) := by
  unfold gatherumref04_low.f
  by_cases h : a < b
  · rw [if_pos (by simpa using h)]; congr 1; omega
  · rw [if_neg (by simpa using h)]; congr 1; omega
theorem tm4 (x : Int) (h : 0 ≤ x) : Int.tmod x 4 = x % 4 := Int.tmod_eq_emod_of_nonneg h
theorem q03_Of (K : Nat) (t : Int) : gatherumref03_Of.f (K + 50) t = some (M t) := by
  rcases eight t with h | h | h | h | h | h | h | h <;>
    simp [gatherumref03_Of.f, and7, h, gatherumref03_Of.l0, gatherumref03_Of.l1, M, wl0, wl1, wl2, wl3, wm1, tm4]
theorem q03_Do (t x y : Int) (hx : R x) (hy : R y) : gatherumref03_Do.f (M t).1 (M t).2.1 (M t).2.2.1 (M t).2.2.2 x y = some (D t x y) := by
  have h1 : wrap64 x = x := R_id hx
  have h2 : wrap64 y = y := R_id hy
  rcases eight t with h | h | h | h | h | h | h | h <;>
    simp [gatherumref03_Do.f, M, D, h, wl0, h1, h2, wrap_wrap, wnn hx, wnn hy]
theorem q04_Do (K : Nat) (t ax ay x y : Int) (hx : R x) (hy : R y) : gatherumref04_Do.f (K + 50) t ax ay x y = some (wrap64 ((D t x y).1 + ax), wrap64 ((D t x y).2 + ay)) := by
  simp only [gatherumref04_Do.f, q03_Of K t, Option.bind_some, q03_Do t x y hx hy]
theorem q04_Box (K : Nat) (t ax ay a b c d : Int) (ha : R a) (hb : R b) (hc : R c) (hd : R d) : gatherumref04_Box.f (K + 50) t ax ay a b c d = some (bxm t ax ay a b c d) := by
  simp only [gatherumref04_Box.f, q04_Do K _ _ _ _ _ ha hb, q04_Do K _ _ _ _ _ hc hd, Option.bind_some, q04_low, q04_high, bxm]
theorem qbEmpty (a b c d : Int) : box_Empty.f a b c d = some (decide (emp a b c d)) := by
  unfold box_Empty.f emp
  by_cases h : c ≤ a <;> simp [h]
theorem qbMeet (a b c d a' b' c' d' : Int) : box_Meet.f a b c d a' b' c' d' = some (mt a b c d a' b' c' d') := by
  simp only [box_Meet.f, qbEmpty, Option.bind_some, mni_eq, mxi_eq, mt]
  by_cases h : emp (max a a') (max b b') (min c c') (min d d') <;> simp [h]
theorem q20Size (j0 : ByteArray) (j1 j2 j3 j4 j5 j6 j7 j8 j9 j10 j11 j12 j13 : Int) (j14 j15 : Ov) (j16 j17 j18 j19 j20 j21 j22 j23 j24 j25 j26 j27 j28 j29 j30 j31 j32 : Int) : gatherumref20_Size.f j0 j1 j2 j3 j4 j5 j6 j7 j8 j9 j10 j11 j12 j13 j14 j15 j16 j17 j18 j19 j20 j21 j22 j23 j24 j25 j26 j27 j28 j29 j30 j31 j32 = some (psz j4 j9 j10 j5 j7 j8) := rfl
def nearP (x0 y0 x1 y1 t ax ay : Int) : Prop := (-1099511627776 ≤ x0 ∧ x0 ≤ 1099511627776) ∧ (-1099511627776 ≤ y0 ∧ y0 ≤ 1099511627776) ∧ (-1099511627776 ≤ x1 ∧ x1 ≤ 1099511627776) ∧ (-1099511627776 ≤ y1 ∧ y1 ≤ 1099511627776) ∧ (-1099511627776 ≤ ax ∧ ax ≤ 1099511627776) ∧ (-1099511627776 ≤ ay ∧ ay ≤ 1099511627776) ∧ 0 ≤ t ∧ t ≤ 7
instance (x0 y0 x1 y1 t ax ay : Int) : Decidable (nearP x0 y0 x1 y1 t ax ay) := by unfold nearP; infer_instance
theorem eightv (t : Int) (h : 0 ≤ t ∧ t ≤ 7) : t = 0 ∨ t = 1 ∨ t = 2 ∨ t = 3 ∨ t = 4 ∨ t = 5 ∨ t = 6 ∨ t = 7 := by omega
theorem wS {x : Int} (h : -1000000000000000000 ≤ x ∧ x ≤ 1000000000000000000) : wrap64 x = x := wrap_id (by omega) (by omega)
set_option maxHeartbeats 4000000 in
/-- What lies within where a near rectangle lies, is brought back into the rectangle, and from there to where it was. -/
theorem bx_back (x0 y0 x1 y1 t ax ay a b c d : Int) (hn : nearP x0 y0 x1 y1 t ax ay) (hx : x0 < x1) (hy : y0 < y1) (hab : a < c) (hcd : b < d)
    (l0 : (bxm t ax ay x0 y0 x1 y1).1 ≤ a) (l1 : (bxm t ax ay x0 y0 x1 y1).2.1 ≤ b) (l2 : c ≤ (bxm t ax ay x0 y0 x1 y1).2.2.1) (l3 : d ≤ (bxm t ax ay x0 y0 x1 y1).2.2.2) :
    ∃ p q r s, bxm (bk t) (wrap64 (-(D (bk t) ax ay).1)) (wrap64 (-(D (bk t) ax ay).2)) a b c d = (p, q, r, s) ∧ bxm t ax ay p q r s = (a, b, c, d) ∧ x0 ≤ p ∧ r ≤ x1 ∧ y0 ≤ q ∧ s ≤ y1 ∧ p < r ∧ q < s := by
  obtain ⟨⟨h1, h2⟩, ⟨h3, h4⟩, ⟨h5, h6⟩, ⟨h7, h8⟩, ⟨h9, h10⟩, ⟨h11, h12⟩, h13⟩ := hn
  have r1 : wrap64 (-x0) = -x0 := wS (by omega)
  have r2 : wrap64 (-y0) = -y0 := wS (by omega)
  have r3 : wrap64 (-x1) = -x1 := wS (by omega)
  have r4 : wrap64 (-y1) = -y1 := wS (by omega)
  have r5 : wrap64 (-ax) = -ax := wS (by omega)
  have r6 : wrap64 (-ay) = -ay := wS (by omega)
  rcases eightv t h13 with rfl | rfl | rfl | rfl | rfl | rfl | rfl | rfl
  all_goals
    simp only [bxm, D, bk, Int.reduceMod, Int.reduceNeg, Int.reduceLT, Int.reduceEq, if_true, if_false, r1, r2, r3, r4, r5, r6] at l0 l1 l2 l3 ⊢
    simp (disch := omega) only [wS, Int.neg_neg] at l0 l1 l2 l3
    have ha : -10000000000000 ≤ a ∧ a ≤ 10000000000000 := by omega
    have hb : -10000000000000 ≤ b ∧ b ≤ 10000000000000 := by omega
    have hc : -10000000000000 ≤ c ∧ c ≤ 10000000000000 := by omega
    have hd : -10000000000000 ≤ d ∧ d ≤ 10000000000000 := by omega
    refine ⟨_, _, _, _, rfl, ?_⟩
    simp (disch := omega) only [wS, Int.neg_neg, Prod.mk.injEq]
    refine ⟨⟨?_, ?_, ?_, ?_⟩, ?_, ?_, ?_, ?_, ?_, ?_⟩ <;> omega
theorem R_max {a b : Int} (h : R a) (h' : R b) : R (max a b) := ⟨by have := h.1; omega, by have := h.2; have := h'.2; omega⟩
theorem R_min {a b : Int} (h : R a) (h' : R b) : R (min a b) := ⟨by have := h.1; have := h'.1; omega, by have := h.2; omega⟩
theorem bxm_R (t ax ay x0 y0 x1 y1 : Int) : R (bxm t ax ay x0 y0 x1 y1).1 ∧ R (bxm t ax ay x0 y0 x1 y1).2.1 ∧ R (bxm t ax ay x0 y0 x1 y1).2.2.1 ∧ R (bxm t ax ay x0 y0 x1 y1).2.2.2 :=
  ⟨R_min (R_wrap _) (R_wrap _), R_min (R_wrap _) (R_wrap _), R_max (R_wrap _) (R_wrap _), R_max (R_wrap _) (R_wrap _)⟩
theorem qInR (a b c : Int) : gatherumref01_In.f a b c = some (decide (b ≤ a ∧ a ≤ c)) := by
  unfold gatherumref01_In.f
  by_cases h : b ≤ a <;> simp [h]
set_option maxHeartbeats 4000000 in
/-- A near rectangle that is none empty is brought to one that is none. -/
theorem bx_full (x0 y0 x1 y1 t ax ay : Int) (hn : nearP x0 y0 x1 y1 t ax ay) (hx : x0 < x1) (hy : y0 < y1) : (bxm t ax ay x0 y0 x1 y1).1 < (bxm t ax ay x0 y0 x1 y1).2.2.1 ∧ (bxm t ax ay x0 y0 x1 y1).2.1 < (bxm t ax ay x0 y0 x1 y1).2.2.2 := by
  obtain ⟨⟨h1, h2⟩, ⟨h3, h4⟩, ⟨h5, h6⟩, ⟨h7, h8⟩, ⟨h9, h10⟩, ⟨h11, h12⟩, h13⟩ := hn
  rcases eightv t h13 with rfl | rfl | rfl | rfl | rfl | rfl | rfl | rfl
  all_goals
    simp only [bxm, D, Int.reduceMod, Int.reduceNeg, Int.reduceLT, Int.reduceEq, if_true, if_false]
    simp (disch := omega) only [wS]
    omega
set_option maxHeartbeats 4000000 in
/-- What is brought apart is apart. -/
theorem bx_apart (x0 y0 x1 y1 t ax ay p q r s p' q' r' s' a b c d a' b' c' d' : Int) (hn : nearP x0 y0 x1 y1 t ax ay) (h : bxm t ax ay p q r s = (a, b, c, d)) (h' : bxm t ax ay p' q' r' s' = (a', b', c', d'))
    (k1 : x0 ≤ p) (k2 : r ≤ x1) (k3 : y0 ≤ q) (k4 : s ≤ y1) (k5 : p < r) (k6 : q < s) (k1' : x0 ≤ p') (k2' : r' ≤ x1) (k3' : y0 ≤ q') (k4' : s' ≤ y1) (k5' : p' < r') (k6' : q' < s') (ha : c ≤ a' ∨ d ≤ b') :
    emp (max p p') (max q q') (min r r') (min s s') := by
  obtain ⟨⟨h1, h2⟩, ⟨h3, h4⟩, ⟨h5, h6⟩, ⟨h7, h8⟩, ⟨h9, h10⟩, ⟨h11, h12⟩, h13⟩ := hn
  unfold emp
  rcases eightv t h13 with rfl | rfl | rfl | rfl | rfl | rfl | rfl | rfl
  all_goals
    simp only [bxm, D, Int.reduceMod, Int.reduceNeg, Int.reduceLT, Int.reduceEq, if_true, if_false, Prod.mk.injEq] at h h'
    simp (disch := omega) only [wS] at h h'
    omega
set_option maxHeartbeats 4000000 in
/-- A near rectangle is brought to a near one. -/
theorem bxm_near (x0 y0 x1 y1 t ax ay : Int) (hn : nearP x0 y0 x1 y1 t ax ay) : (-10000000000000 ≤ (bxm t ax ay x0 y0 x1 y1).1 ∧ (bxm t ax ay x0 y0 x1 y1).1 ≤ 10000000000000) ∧ (-10000000000000 ≤ (bxm t ax ay x0 y0 x1 y1).2.1 ∧ (bxm t ax ay x0 y0 x1 y1).2.1 ≤ 10000000000000) ∧ (-10000000000000 ≤ (bxm t ax ay x0 y0 x1 y1).2.2.1 ∧ (bxm t ax ay x0 y0 x1 y1).2.2.1 ≤ 10000000000000) ∧ (-10000000000000 ≤ (bxm t ax ay x0 y0 x1 y1).2.2.2 ∧ (bxm t ax ay x0 y0 x1 y1).2.2.2 ≤ 10000000000000) := by
  obtain ⟨⟨h1, h2⟩, ⟨h3, h4⟩, ⟨h5, h6⟩, ⟨h7, h8⟩, ⟨h9, h10⟩, ⟨h11, h12⟩, h13⟩ := hn
  rcases eightv t h13 with rfl | rfl | rfl | rfl | rfl | rfl | rfl | rfl
  all_goals
    simp only [bxm, D, Int.reduceMod, Int.reduceNeg, Int.reduceLT, Int.reduceEq, if_true, if_false]
    simp (disch := omega) only [wS]
    omega
/-- A place, and then another one. -/
def tn (a b : Int × Int × Int) : Int × Int × Int := (th a.1 b.1, wrap64 ((D b.1 a.2.1 a.2.2).1 + b.2.1), wrap64 ((D b.1 a.2.1 a.2.2).2 + b.2.2))
theorem tn_R (a b : Int × Int × Int) : R (tn a b).2.1 ∧ R (tn a b).2.2 := ⟨R_wrap _, R_wrap _⟩
theorem tn_assoc (a b c : Int × Int × Int) (h1 : R a.2.1) (h2 : R a.2.2) : tn (tn a b) c = tn a (tn b c) := by
  unfold tn
  simp only [th_assoc, D_add, D_comp b.1 c.1 _ _ h1 h2, wrap_add_l, wrap_add_r, Int.add_assoc]
theorem tn_zero (b : Int × Int × Int) (h0 : 0 ≤ b.1 ∧ b.1 ≤ 7) (h1 : R b.2.1) (h2 : R b.2.2) : tn (0, 0, 0) b = b := by
  obtain ⟨t, x, y⟩ := b
  have hD : D t 0 0 = (0, 0) := by
    rcases eight t with h | h | h | h | h | h | h | h <;> simp [D, h, wl0]
  have ht : th 0 t = t := by rw [(th_back t).2.2.1]; simp only at h0; omega
  simp only [tn, hD, ht, Int.zero_add, R_id h1, R_id h2]
/-- A place, undone. -/
def bck (a : Int × Int × Int) : Int × Int × Int := (bk a.1, wrap64 (-(D (bk a.1) a.2.1 a.2.2).1), wrap64 (-(D (bk a.1) a.2.1 a.2.2).2))
/-- How many runs. -/
def rns (s : Int) : Int := if 3 ≤ s then 2 else 1
theorem qRuns (j0 : ByteArray) (j1 j2 j3 j4 j5 j6 j7 j8 j9 j10 j11 j12 j13 : Int) (j14 j15 : Ov) (j16 j17 j18 j19 j20 j21 j22 j23 j24 j25 j26 j27 j28 j29 j30 j31 j32 : Int) : (B15 j0 j1 j2 j3 j4 j5 j6 j7 j8 j9 j10 j11 j12 j13 j14 j15 j16 j17 j18 j19 j20 j21 j22 j23 j24 j25 j26 j27 j28 j29 j30 j31 j32 ∧ knife_Runs.f j0 j1 j2 j3 j4 j5 j6 j7 j8 j9 j10 j11 j12 j13 j14 j15 j16 j17 j18 j19 j20 j21 j22 j23 j24 j25 j26 j27 j28 j29 j30 j31 j32 = some (rns j16)) ∨ (¬ B15 j0 j1 j2 j3 j4 j5 j6 j7 j8 j9 j10 j11 j12 j13 j14 j15 j16 j17 j18 j19 j20 j21 j22 j23 j24 j25 j26 j27 j28 j29 j30 j31 j32 ∧ knife_Runs.f j0 j1 j2 j3 j4 j5 j6 j7 j8 j9 j10 j11 j12 j13 j14 j15 j16 j17 j18 j19 j20 j21 j22 j23 j24 j25 j26 j27 j28 j29 j30 j31 j32 = some 0) := by
  unfold knife_Runs.f
  rcases qbFirst j0 j1 j2 j3 j4 j5 j6 j7 j8 j9 j10 j11 j12 j13 j14 j15 j16 j17 j18 j19 j20 j21 j22 j23 j24 j25 j26 j27 j28 j29 j30 j31 j32 with ⟨h, e⟩ | ⟨h, v, e, hv⟩
  · refine Or.inl ⟨h, ?_⟩
    have hs := may_s j0 j1 j2 j3 j4 j5 j6 j7 j8 j9 j10 j11 j12 j13 j14 j15 j16 j17 j18 j19 j20 j21 j22 j23 j24 j25 j26 j27 j28 j29 j30 j31 j32 h
    rw [e, Option.bind_some, if_neg (by decide), qPlates, Option.bind_some]
    have hc : j16 = 1 ∨ j16 = 2 ∨ j16 = 3 ∨ j16 = 4 := by omega
    rcases hc with h | h | h | h <;> simp [h, plt, rns, wl1, wl2]
  · exact Or.inr ⟨h, by rw [e, Option.bind_some, if_pos (by simp; omega)]⟩
theorem qCopies (j0 : ByteArray) (j1 j2 j3 j4 j5 j6 j7 j8 j9 j10 j11 j12 j13 : Int) (j14 j15 : Ov) (j16 j17 j18 j19 j20 j21 j22 j23 j24 j25 j26 j27 j28 j29 j30 j31 j32 : Int) : knife_copies.f j0 j1 j2 j3 j4 j5 j6 j7 j8 j9 j10 j11 j12 j13 j14 j15 j16 j17 j18 j19 j20 j21 j22 j23 j24 j25 j26 j27 j28 j29 j30 j31 j32 = some (cps j11) := by
  unfold knife_copies.f cps
  by_cases h : j11 = 4 <;> simp [h]
/-- A copy's piece: at: where its block lies; W, H: how great the piece is; f: how the sheet is turned over. -/
def pce (a f : Int × Int × Int) (W H run copy : Int) : Int × Int × Int × Int × Int × Int × Int :=
  let b := bxm a.1 a.2.1 a.2.2 0 (wrap64 (copy * H)) (wrap64 (0 + W)) (wrap64 (wrap64 (copy * H) + H))
  let m := tn (bck a) (0, 0, wrap64 (0 - wrap64 (copy * H)))
  if run = 0 then (b.1, b.2.1, b.2.2.1, b.2.2.2, m.1, m.2.1, m.2.2) else
    let d := bxm f.1 f.2.1 f.2.2 b.1 b.2.1 b.2.2.1 b.2.2.2
    let n := tn f m
    (d.1, d.2.1, d.2.2.1, d.2.2.2, n.1, n.2.1, n.2.2)
def flpR (f : Int × Int × Int) : Prop := (0 ≤ f.1 ∧ f.1 ≤ 7) ∧ R f.2.1 ∧ R f.2.2
theorem flp_ok (j0 : ByteArray) (j1 j2 j3 j4 j5 j6 j7 j8 j9 j10 j11 j12 j13 : Int) (j14 j15 : Ov) (j16 j17 j18 j19 j20 j21 j22 j23 j24 j25 j26 j27 j28 j29 j30 j31 j32 : Int) (h : B15 j0 j1 j2 j3 j4 j5 j6 j7 j8 j9 j10 j11 j12 j13 j14 j15 j16 j17 j18 j19 j20 j21 j22 j23 j24 j25 j26 j27 j28 j29 j30 j31 j32) : flpR (flp j16 j17 j18) := by
  obtain ⟨-, -, -, -, -, -, -, -, -, -, -, k16, k17, k18, -⟩ := h
  unfold flpR flp R
  split
  · simp only; omega
  · split <;> simp only <;> omega
theorem pneg (c H : Int) : wrap64 (wrap64 (0 - c) * H) = wrap64 (0 - wrap64 (c * H)) := by
  rw [wrap_mul_l, wrap_sub_r, Int.sub_mul, Int.zero_mul]
theorem qPieceNo (K : Nat) (j0 : ByteArray) (j1 j2 j3 j4 j5 j6 j7 j8 j9 j10 j11 j12 j13 : Int) (j14 j15 : Ov) (j16 j17 j18 j19 j20 j21 j22 j23 j24 j25 j26 j27 j28 j29 j30 j31 j32 : Int) (c r : Int) (o : Ov) (run copy : Int) (h : ¬ (B15 j0 j1 j2 j3 j4 j5 j6 j7 j8 j9 j10 j11 j12 j13 j14 j15 j16 j17 j18 j19 j20 j21 j22 j23 j24 j25 j26 j27 j28 j29 j30 j31 j32 ∧ 0 < pan c r ∧ (0 ≤ run ∧ run < rns j16) ∧ (0 ≤ copy ∧ copy < cps j11))) : knife_Piece.f (K + 50) j0 j1 j2 j3 j4 j5 j6 j7 j8 j9 j10 j11 j12 j13 j14 j15 j16 j17 j18 j19 j20 j21 j22 j23 j24 j25 j26 j27 j28 j29 j30 j31 j32 c r o run copy = some (0, 0, 0, 0, 0, 0, 0, false) := by
  unfold knife_Piece.f
  have hc := cps_or j11
  have hr : rns j16 = 1 ∨ rns j16 = 2 := by unfold rns; split <;> simp
  rcases qRuns j0 j1 j2 j3 j4 j5 j6 j7 j8 j9 j10 j11 j12 j13 j14 j15 j16 j17 j18 j19 j20 j21 j22 j23 j24 j25 j26 j27 j28 j29 j30 j31 j32 with ⟨h1, e⟩ | ⟨h1, e⟩
  · rw [e, Option.bind_some, qIn, Option.bind_some, wrap_id (n := rns j16 - 1) (by omega) (by omega)]
    by_cases g1 : 0 ≤ run ∧ run ≤ rns j16 - 1
    · rw [if_neg (pdec g1), qCopies, Option.bind_some, qIn, Option.bind_some, wrap_id (n := cps j11 - 1) (by omega) (by omega)]
      by_cases g2 : 0 ≤ copy ∧ copy ≤ cps j11 - 1
      · rw [if_neg (pdec g2), qPanels, Option.bind_some]
        have hp := pan_bounds c r
        have : pan c r = 0 := by
          rcases Int.lt_or_le 0 (pan c r) with g | g
          · exact absurd ⟨h1, g, by omega, by omega⟩ h
          · omega
        rw [if_pos (by simp [this])]
      · rw [if_pos (ndec g2)]
    · rw [if_pos (ndec g1)]
  · rw [e, Option.bind_some, qIn, Option.bind_some, show wrap64 (0 - 1) = -1 from wm1, if_pos (ndec (by omega))]
theorem qPiece (K : Nat) (j0 : ByteArray) (j1 j2 j3 j4 j5 j6 j7 j8 j9 j10 j11 j12 j13 : Int) (j14 j15 : Ov) (j16 j17 j18 j19 j20 j21 j22 j23 j24 j25 j26 j27 j28 j29 j30 j31 j32 : Int) (c r : Int) (o : Ov) (run copy : Int) (h : B15 j0 j1 j2 j3 j4 j5 j6 j7 j8 j9 j10 j11 j12 j13 j14 j15 j16 j17 j18 j19 j20 j21 j22 j23 j24 j25 j26 j27 j28 j29 j30 j31 j32) (hp : 0 < pan c r) (hrun : 0 ≤ run ∧ run < rns j16) (hcopy : 0 ≤ copy ∧ copy < cps j11) (a : Int × Int × Int) (ha : a = att j25 (reg j16 j17 j18 (are j16 j17 j18 j19 j20 j21)) (out j25 (blk (psz j4 j9 j10 j5 j7 j8).1 (psz j4 j9 j10 j5 j7 j8).2 c r (cps j11)))) (W H : Int) (hWH : blk (psz j4 j9 j10 j5 j7 j8).1 (psz j4 j9 j10 j5 j7 j8).2 c r 1 = (W, H)) :
    ∃ p, knife_Piece.f (K + 50) j0 j1 j2 j3 j4 j5 j6 j7 j8 j9 j10 j11 j12 j13 j14 j15 j16 j17 j18 j19 j20 j21 j22 j23 j24 j25 j26 j27 j28 j29 j30 j31 j32 c r o run copy = some (p.1, p.2.1, p.2.2.1, p.2.2.2.1, p.2.2.2.2.1, p.2.2.2.2.2.1, p.2.2.2.2.2.2, true) ∧ p = pce a (flp j16 j17 j18) W H run copy := by
  refine ⟨_, ?_, rfl⟩
  have hR0 := att_R j25 (reg j16 j17 j18 (are j16 j17 j18 j19 j20 j21)) (out j25 (blk (psz j4 j9 j10 j5 j7 j8).1 (psz j4 j9 j10 j5 j7 j8).2 c r (cps j11)))
  rw [← ha] at hR0
  have hc := cps_or j11
  have hr : rns j16 = 1 ∨ rns j16 = 2 := by unfold rns; split <;> simp
  have hf := flp_ok j0 j1 j2 j3 j4 j5 j6 j7 j8 j9 j10 j11 j12 j13 j14 j15 j16 j17 j18 j19 j20 j21 j22 j23 j24 j25 j26 j27 j28 j29 j30 j31 j32 h
  unfold knife_Piece.f
  rcases qRuns j0 j1 j2 j3 j4 j5 j6 j7 j8 j9 j10 j11 j12 j13 j14 j15 j16 j17 j18 j19 j20 j21 j22 j23 j24 j25 j26 j27 j28 j29 j30 j31 j32 with ⟨h1, e⟩ | ⟨h1, e⟩
  case inr => exact absurd h h1
  rw [e, Option.bind_some, qIn, Option.bind_some, wrap_id (n := rns j16 - 1) (by omega) (by omega), if_neg (pdec (by omega)), qCopies, Option.bind_some, qIn, Option.bind_some, wrap_id (n := cps j11 - 1) (by omega) (by omega), if_neg (pdec (by omega)), qPanels, Option.bind_some, if_neg (by simp; omega)]
  rw [qBlock, Option.bind_some, qAt K j0 j1 j2 j3 j4 j5 j6 j7 j8 j9 j10 j11 j12 j13 j14 j15 j16 j17 j18 j19 j20 j21 j22 j23 j24 j25 j26 j27 j28 j29 j30 j31 j32 c r o h hp, Option.bind_some, ← ha, hWH, qFlip]
  generalize flp j16 j17 j18 = f at *
  obtain ⟨t, ax, ay⟩ := a
  have r0 : R 0 := by unfold R; omega
  have hb := bxm_R t ax ay 0 (wrap64 (copy * H)) (wrap64 (0 + W)) (wrap64 (wrap64 (copy * H) + H))
  have hB := tn_R
  have bb := bk_bounds t
  have zb := tn_zero (bck (t, ax, ay)) bb (R_wrap _) (R_wrap _)
  have zf := tn_zero f hf.1 hf.2.1 hf.2.2
  have asc := tn_assoc f (bck (t, ax, ay)) (0, 0, wrap64 (0 - wrap64 (copy * H))) hf.2.1 hf.2.2
  rw [show box_Of.f 0 (wrap64 (copy * H)) W H = some (0, wrap64 (copy * H), wrap64 (0 + W), wrap64 (wrap64 (copy * H) + H)) from rfl, Option.bind_some, qPlaceBox K _ _ _ _ _ _ _ r0 (R_wrap _) (R_wrap _) (R_wrap _), Option.bind_some, pneg]
  have L (b : Int × Int × Int × Int) (x y : Int × Int × Int) (hx : R x.2.1) (hy : R x.2.2) : layer_Lay.f (K + 50) b.1 b.2.1 b.2.2.1 b.2.2.2 x.1 x.2.1 x.2.2 y.1 y.2.1 y.2.2 = some (b.1, b.2.1, b.2.2.1, b.2.2.2, (tn x y).1, (tn x y).2.1, (tn x y).2.2) := by
    rw [layer_Lay.f, qPlaceThen K _ _ _ _ _ _ hx hy]; rfl
  unfold pce
  simp only
  generalize bxm t ax ay 0 (wrap64 (copy * H)) (wrap64 (0 + W)) (wrap64 (wrap64 (copy * H) + H)) = b at *
  have B := qPlaceBack K t ax ay hR0.1 hR0.2
  generalize hbk : bck (t, ax, ay) = bc at *
  have B' : place_Back.f (K + 50) t ax ay = some bc := by rw [B, ← hbk]; rfl
  rw [show layer_Of.f b.1 b.2.1 b.2.2.1 b.2.2.2 = some (b.1, b.2.1, b.2.2.1, b.2.2.2, 0, 0, 0) from rfl, Option.bind_some]
  have hbc : R bc.2.1 ∧ R bc.2.2 := by rw [← hbk]; exact ⟨R_wrap _, R_wrap _⟩
  by_cases g : run = 1
  · have g0 : ¬ run = 0 := by omega
    rw [if_pos (by simp [g]), if_neg g0, Option.bind_some, qPlaceBox K _ _ _ _ _ _ _ hb.1 hb.2.1 hb.2.2.1 hb.2.2.2, Option.bind_some]
    generalize bxm f.1 f.2.1 f.2.2 b.1 b.2.1 b.2.2.1 b.2.2.2 = d at *
    have l1 := L d (0, 0, 0) f r0 r0
    rw [zf] at l1
    have l2 := L d f bc hf.2.1 hf.2.2
    have l3 := L d (tn f bc) (0, 0, wrap64 (0 - wrap64 (copy * H))) (hB _ _).1 (hB _ _).2
    rw [asc] at l3
    simp only at l1 l2 l3 ⊢
    rw [l1, Option.bind_some, B', Option.bind_some]
    simp only
    rw [l2, Option.bind_some, show ∀ a b : Int, place_Move.f a b = some (0, a, b) from fun _ _ => rfl, Option.bind_some]
    simp only
    rw [l3, Option.bind_some]
  · have g0 : run = 0 := by omega
    rw [if_neg (by simp [g]), if_pos g0, B', Option.bind_some]
    have l1 := L b (0, 0, 0) bc r0 r0
    rw [zb] at l1
    have l2 := L b bc (0, 0, wrap64 (0 - wrap64 (copy * H))) hbc.1 hbc.2
    simp only at l1 l2 ⊢
    rw [l1, Option.bind_some, show ∀ a b : Int, place_Move.f a b = some (0, a, b) from fun _ _ => rfl, Option.bind_some]
    simp only
    rw [l2, Option.bind_some]
theorem alive : gatherumlaw40_alive.f (0 + 50) = some true := by decide +kernel
theorem reg_near (j0 : ByteArray) (j1 j2 j3 j4 j5 j6 j7 j8 j9 j10 j11 j12 j13 : Int) (j14 j15 : Ov) (j16 j17 j18 j19 j20 j21 j22 j23 j24 j25 j26 j27 j28 j29 j30 j31 j32 : Int) (h : B15 j0 j1 j2 j3 j4 j5 j6 j7 j8 j9 j10 j11 j12 j13 j14 j15 j16 j17 j18 j19 j20 j21 j22 j23 j24 j25 j26 j27 j28 j29 j30 j31 j32) : (-10000000000 ≤ (reg j16 j17 j18 (are j16 j17 j18 j19 j20 j21)).1 ∧ (reg j16 j17 j18 (are j16 j17 j18 j19 j20 j21)).1 ≤ 10000000000) ∧ (-10000000000 ≤ (reg j16 j17 j18 (are j16 j17 j18 j19 j20 j21)).2.1 ∧ (reg j16 j17 j18 (are j16 j17 j18 j19 j20 j21)).2.1 ≤ 10000000000) ∧ (-10000000000 ≤ (reg j16 j17 j18 (are j16 j17 j18 j19 j20 j21)).2.2.1 ∧ (reg j16 j17 j18 (are j16 j17 j18 j19 j20 j21)).2.2.1 ≤ 10000000000) ∧ (-10000000000 ≤ (reg j16 j17 j18 (are j16 j17 j18 j19 j20 j21)).2.2.2 ∧ (reg j16 j17 j18 (are j16 j17 j18 j19 j20 j21)).2.2.2 ≤ 10000000000) := by
  obtain ⟨-, -, -, -, -, -, -, -, -, -, -, k16, k17, k18, k19, k20, k21, -⟩ := h
  have hp : ¬ plt j16 = 0 := by rw [plt_zero]; omega
  have hare : are j16 j17 j18 j19 j20 j21 = if j16 = 2 ∨ j16 = 4 then (j19, max j20 j21, j17 - j19, j18 - max j20 j21) else (j19, j20, j17 - j19, j18 - j21) := by
    unfold are
    rw [if_neg hp, wS (x := j17 - j19) (by omega), wS (x := j18 - max j20 j21) (by omega), wS (x := j18 - j21) (by omega)]
  rw [hare]
  have hc : j16 = 1 ∨ j16 = 2 ∨ j16 = 3 ∨ j16 = 4 := by omega
  rcases hc with h | h | h | h <;> simp [h, reg] <;> omega
theorem att_near (q g0 g1 g2 g3 ow oh : Int) (h0 : -10000000000 ≤ g0 ∧ g0 ≤ 10000000000) (h1 : -10000000000 ≤ g1 ∧ g1 ≤ 10000000000) (h2 : -10000000000 ≤ g2 ∧ g2 ≤ 10000000000) (h3 : -10000000000 ≤ g3 ∧ g3 ≤ 10000000000) (hw : 1 ≤ ow ∧ ow ≤ 1920000000) (hh : 1 ≤ oh ∧ oh ≤ 1920000000) :
    ∃ x y, att q (g0, g1, g2, g3) (ow, oh) = (q, x, y) ∧ (-100000000000 ≤ x ∧ x ≤ 100000000000) ∧ (-100000000000 ≤ y ∧ y ≤ 100000000000) := by
  refine ⟨_, _, rfl, ?_, ?_⟩
  · simp only [att]
    split <;> simp (disch := omega) only [wS] <;> omega
  · simp only [att]
    split <;> simp (disch := omega) only [wS] <;> omega
theorem out_bounds (q bw bh : Int) (hw : 1 ≤ bw ∧ bw ≤ 1920000000) (hh : 1 ≤ bh ∧ bh ≤ 1920000000) : (1 ≤ (out q (bw, bh)).1 ∧ (out q (bw, bh)).1 ≤ 1920000000) ∧ (1 ≤ (out q (bw, bh)).2 ∧ (out q (bw, bh)).2 ≤ 1920000000) := by
  unfold out; split
  · exact ⟨hh, hw⟩
  · exact ⟨hw, hh⟩
theorem fT : (False = True) = False := by simp
theorem w00 (H : Int) : wrap64 (0 * H) = 0 := by rw [Int.zero_mul]; exact wl0
set_option maxHeartbeats 8000000 in
theorem lies0 (q ax ay W H : Int) (f : Int × Int × Int) (hq : 0 ≤ q ∧ q ≤ 3) (hx : -100000000000 ≤ ax ∧ ax ≤ 100000000000) (hy : -100000000000 ≤ ay ∧ ay ≤ 100000000000) (hW : 1 ≤ W ∧ W ≤ 2000000000) (hH : 1 ≤ H ∧ H ≤ 2000000000) :
    ∃ b0 b1 b2 b3 t x y, pce (q, ax, ay) f W H 0 0 = (b0, b1, b2, b3, t, x, y) ∧ bxm t x y b0 b1 b2 b3 = (0, 0, W, H) ∧ t < 4 ∧ R b0 ∧ R b1 ∧ R b2 ∧ R b3 := by
  have hb := bxm_R q ax ay 0 (wrap64 (0 * H)) (wrap64 (0 + W)) (wrap64 (wrap64 (0 * H) + H))
  refine ⟨_, _, _, _, _, _, _, rfl, ?_, ?_, hb⟩
  all_goals
    simp only [if_true, w00, Int.zero_add, Int.sub_zero, wl0, Int.add_zero, tn, bck]
    have e1 : wrap64 W = W := wS (by omega)
    have e2 : wrap64 H = H := wS (by omega)
    have hc : q = 0 ∨ q = 1 ∨ q = 2 ∨ q = 3 := by omega
    rcases hc with rfl | rfl | rfl | rfl
  all_goals
    simp only [bxm, D, bk, th, Int.reduceMod, Int.reduceNeg, Int.reduceLT, Int.reduceEq, if_true, if_false, e1, e2, Int.reduceAdd, Int.reduceSub, Int.neg_zero, wl0, Int.zero_add, Int.add_zero, fT]
  all_goals
    first
    | (simp (disch := omega) only [wS, Int.neg_neg, Prod.mk.injEq]; omega)
    | decide
set_option maxHeartbeats 8000000 in
theorem lies1 (q ax ay W H w h : Int) (f : Int × Int × Int) (hf : f = (4, w, 0) ∨ f = (6, 0, h)) (hw : 1 ≤ w ∧ w ≤ 5000000) (hh : 1 ≤ h ∧ h ≤ 5000000) (hq : 0 ≤ q ∧ q ≤ 3) (hx : -100000000000 ≤ ax ∧ ax ≤ 100000000000) (hy : -100000000000 ≤ ay ∧ ay ≤ 100000000000) (hW : 1 ≤ W ∧ W ≤ 2000000000) (hH : 1 ≤ H ∧ H ≤ 2000000000) :
    ∃ b0 b1 b2 b3 t x y, pce (q, ax, ay) f W H 1 0 = (b0, b1, b2, b3, t, x, y) ∧ bxm t x y b0 b1 b2 b3 = (0, 0, W, H) ∧ ¬ t < 4 ∧ R b0 ∧ R b1 ∧ R b2 ∧ R b3 := by
  have hb := bxm_R f.1 f.2.1 f.2.2 (bxm q ax ay 0 (wrap64 (0 * H)) (wrap64 (0 + W)) (wrap64 (wrap64 (0 * H) + H))).1 (bxm q ax ay 0 (wrap64 (0 * H)) (wrap64 (0 + W)) (wrap64 (wrap64 (0 * H) + H))).2.1 (bxm q ax ay 0 (wrap64 (0 * H)) (wrap64 (0 + W)) (wrap64 (wrap64 (0 * H) + H))).2.2.1 (bxm q ax ay 0 (wrap64 (0 * H)) (wrap64 (0 + W)) (wrap64 (wrap64 (0 * H) + H))).2.2.2
  refine ⟨_, _, _, _, _, _, _, rfl, ?_, ?_, hb⟩
  all_goals
    simp only [show ¬ ((1 : Int) = 0) by decide, if_false, w00, Int.zero_add, Int.sub_zero, wl0, Int.add_zero, tn, bck]
    have e1 : wrap64 W = W := wS (by omega)
    have e2 : wrap64 H = H := wS (by omega)
    have hc : q = 0 ∨ q = 1 ∨ q = 2 ∨ q = 3 := by omega
    rcases hf with rfl | rfl <;> rcases hc with rfl | rfl | rfl | rfl
  all_goals
    simp only [bxm, D, bk, th, Int.reduceMod, Int.reduceNeg, Int.reduceLT, Int.reduceEq, if_true, if_false, e1, e2, Int.reduceAdd, Int.reduceSub, Int.neg_zero, wl0, Int.zero_add, Int.add_zero, fT]
  all_goals
    first
    | (simp (disch := omega) only [wS, Int.neg_neg, Prod.mk.injEq]; omega)
    | decide
theorem small2 {n d : Nat} {s : Int} (h : (n : Int) + (d + 1 : Nat) = s) (hs : s = 1 ∨ s = 2) : n = 0 ∨ n = 1 := by omega
theorem next2 {n d : Nat} {s : Int} (h : (n : Int) + (d + 1 : Nat) = s) : ((n + 1 : Nat) : Int) + d = s := by omega
theorem lt2 {n d : Nat} {s : Int} (h : (n : Int) + (d + 1 : Nat) = s) : 0 ≤ (n : Int) ∧ (n : Int) < s := by omega
set_option maxHeartbeats 8000000 in
theorem liesLoop (K : Nat) (j0 : ByteArray) (j1 j2 j3 j4 j5 j6 j7 j8 j9 j10 j11 j12 j13 : Int) (j14 j15 : Ov) (j16 j17 j18 j19 j20 j21 j22 j23 j24 j25 j26 j27 j28 j29 j30 j31 j32 : Int) (c r : Int) (o : Ov) (h : B15 j0 j1 j2 j3 j4 j5 j6 j7 j8 j9 j10 j11 j12 j13 j14 j15 j16 j17 j18 j19 j20 j21 j22 j23 j24 j25 j26 j27 j28 j29 j30 j31 j32) (hp : 0 < pan c r) : ∀ (d n k : Nat), (n : Int) + d = rns j16 → d + 1 ≤ k → gatherumlaw40_KnifeLies.l0 (K + 50) j0 j1 j2 j3 j4 j5 j6 j7 j8 j9 j10 j11 j12 j13 j14 j15 j16 j17 j18 j19 j20 j21 j22 j23 j24 j25 j26 j27 j28 j29 j30 j31 j32 c r o (psz j4 j9 j10 j5 j7 j8).1 (psz j4 j9 j10 j5 j7 j8).2 k (n : Int) = some true := by
  have hr : rns j16 = 1 ∨ rns j16 = 2 := by unfold rns; split <;> simp
  have hc := cps_or j11
  have hrun : knife_Runs.f j0 j1 j2 j3 j4 j5 j6 j7 j8 j9 j10 j11 j12 j13 j14 j15 j16 j17 j18 j19 j20 j21 j22 j23 j24 j25 j26 j27 j28 j29 j30 j31 j32 = some (rns j16) := by
    rcases qRuns j0 j1 j2 j3 j4 j5 j6 j7 j8 j9 j10 j11 j12 j13 j14 j15 j16 j17 j18 j19 j20 j21 j22 j23 j24 j25 j26 j27 j28 j29 j30 j31 j32 with ⟨_, e⟩ | ⟨g, _⟩
    · exact e
    · exact absurd h g
  obtain ⟨es, s1, s2⟩ := psz_ok j0 j1 j2 j3 j4 j5 j6 j7 j8 j9 j10 j11 j12 j13 j14 j15 j16 j17 j18 j19 j20 j21 j22 j23 j24 j25 j26 j27 j28 j29 j30 j31 j32 h
  have hcr := pan_pos hp
  obtain ⟨eb, b1, b2⟩ := blk_bounds _ _ c r 1 s1 s2 hcr.1 hcr.2 (Or.inl rfl)
  have hB := may_blk j0 j1 j2 j3 j4 j5 j6 j7 j8 j9 j10 j11 j12 j13 j14 j15 j16 j17 j18 j19 j20 j21 j22 j23 j24 j25 j26 j27 j28 j29 j30 j31 j32 c r h hp
  have hq := may_q j0 j1 j2 j3 j4 j5 j6 j7 j8 j9 j10 j11 j12 j13 j14 j15 j16 j17 j18 j19 j20 j21 j22 j23 j24 j25 j26 j27 j28 j29 j30 j31 j32 h
  have hreg := reg_near j0 j1 j2 j3 j4 j5 j6 j7 j8 j9 j10 j11 j12 j13 j14 j15 j16 j17 j18 j19 j20 j21 j22 j23 j24 j25 j26 j27 j28 j29 j30 j31 j32 h
  have hf := flp_ok j0 j1 j2 j3 j4 j5 j6 j7 j8 j9 j10 j11 j12 j13 j14 j15 j16 j17 j18 j19 j20 j21 j22 j23 j24 j25 j26 j27 j28 j29 j30 j31 j32 h
  have hfl : (flp j16 j17 j18 = (4, j17, 0) ∨ flp j16 j17 j18 = (6, 0, j18)) := by
    have hs := may_s j0 j1 j2 j3 j4 j5 j6 j7 j8 j9 j10 j11 j12 j13 j14 j15 j16 j17 j18 j19 j20 j21 j22 j23 j24 j25 j26 j27 j28 j29 j30 j31 j32 h
    unfold flp
    rw [if_neg (by rw [plt_zero]; omega)]
    split
    · exact Or.inr rfl
    · exact Or.inl rfl
  obtain ⟨W, H, hWH⟩ : ∃ W H, blk (psz j4 j9 j10 j5 j7 j8).1 (psz j4 j9 j10 j5 j7 j8).2 c r 1 = (W, H) := ⟨_, _, rfl⟩
  have hW : (1 ≤ W ∧ W ≤ 960000000) ∧ (1 ≤ H ∧ H ≤ 1920000000) := by
    have e := hWH
    rw [es, eb] at e
    cases e
    exact ⟨b1, b2⟩
  have e1 : wrap64 ((psz j4 j9 j10 j5 j7 j8).1 * c) = W := congrArg Prod.fst hWH
  have e2 : wrap64 ((psz j4 j9 j10 j5 j7 j8).2 * r) = H := by
    have := congrArg Prod.snd hWH
    simp only [blk, Int.mul_one, wrap_wrap] at this
    exact this
  obtain ⟨ax, ay, ea, hx, hy⟩ : ∃ x y, att j25 (reg j16 j17 j18 (are j16 j17 j18 j19 j20 j21)) (out j25 (blk (psz j4 j9 j10 j5 j7 j8).1 (psz j4 j9 j10 j5 j7 j8).2 c r (cps j11))) = (j25, x, y) ∧ (-100000000000 ≤ x ∧ x ≤ 100000000000) ∧ (-100000000000 ≤ y ∧ y ≤ 100000000000) := by
    generalize blk (psz j4 j9 j10 j5 j7 j8).1 (psz j4 j9 j10 j5 j7 j8).2 c r (cps j11) = b at *
    obtain ⟨bw, bh⟩ := b
    have ob := out_bounds j25 bw bh ⟨hB.1.1, by have := hB.1.2; simp only at this; omega⟩ hB.2
    generalize out j25 (bw, bh) = u at *
    generalize reg j16 j17 j18 (are j16 j17 j18 j19 j20 j21) = g at *
    obtain ⟨ow, oh⟩ := u
    obtain ⟨g0, g1, g2, g3⟩ := g
    exact att_near j25 g0 g1 g2 g3 ow oh hreg.1 hreg.2.1 hreg.2.2.1 hreg.2.2.2 ob.1 ob.2
  have hw17 : 1 ≤ j17 ∧ j17 ≤ 5000000 := by
    obtain ⟨-, -, -, -, -, -, -, -, -, -, -, k16, k17, k18, -⟩ := h
    exact k17
  have hw18 : 1 ≤ j18 ∧ j18 ≤ 5000000 := by
    obtain ⟨-, -, -, -, -, -, -, -, -, -, -, k16, k17, k18, -⟩ := h
    exact k18
  intro d
  induction d with
  | zero =>
    intro n k hd hk
    obtain ⟨k, rfl⟩ : ∃ k', k = k' + 1 := ⟨k - 1, by omega⟩
    rw [gatherumlaw40_KnifeLies.l0, hrun, Option.bind_some, if_neg (by simp; omega)]
    simp; omega
  | succ d ih =>
    intro n k hd hk
    obtain ⟨k, rfl⟩ : ∃ k', k = k' + 1 := ⟨k - 1, by omega⟩
    rw [gatherumlaw40_KnifeLies.l0, hrun, Option.bind_some, if_pos (by simp; omega)]
    obtain ⟨p, f1, f2⟩ := qPiece K j0 j1 j2 j3 j4 j5 j6 j7 j8 j9 j10 j11 j12 j13 j14 j15 j16 j17 j18 j19 j20 j21 j22 j23 j24 j25 j26 j27 j28 j29 j30 j31 j32 c r o (n : Int) 0 h hp (lt2 hd) (by omega) _ rfl W H hWH
    rw [ea] at f2
    rw [f1, Option.bind_some, if_neg (by simp), e1, e2]
    have e : wrap64 ((n : Int) + 1) = ((n + 1 : Nat) : Int) := by rw [wrap_id (by omega) (by omega)]; omega
    have next := ih (n + 1) k (next2 hd) (Nat.le_of_succ_le_succ hk)
    rw [← e] at next
    have hof : gatherumref04_Of.f 0 0 W H = some (0, 0, W, H) := by
      unfold gatherumref04_Of.f
      rw [Int.zero_add, Int.zero_add, wrap_id (n := W) (by omega) (by omega), wrap_id (n := H) (by omega) (by omega)]
    have hn : n = 0 ∨ n = 1 := small2 hd hr
    rcases hn with rfl | rfl
    · obtain ⟨q0, q1, q2, q3, t, x, y, g1, g2, g3, g4, g5, g6, g7⟩ := lies0 j25 ax ay W H (flp j16 j17 j18) hq hx hy ⟨hW.1.1, by omega⟩ ⟨hW.2.1, by omega⟩
      have f3 : p = (q0, q1, q2, q3, t, x, y) := by rw [f2]; exact g1
      rw [f3]
      simp only
      rw [show gatherumref38_Lies.f (K + 50) q0 q1 q2 q3 t x y = some (0, 0, W, H) by
        unfold gatherumref38_Lies.f; rw [q04_Box K _ _ _ _ _ _ _ g4 g5 g6 g7, g2]; rfl, Option.bind_some, hof, Option.bind_some]
      rw [if_neg (by simp), if_neg (by simp [g3])]
      exact next
    · obtain ⟨q0, q1, q2, q3, t, x, y, g1, g2, g3, g4, g5, g6, g7⟩ := lies1 j25 ax ay W H j17 j18 (flp j16 j17 j18) hfl hw17 hw18 hq hx hy ⟨hW.1.1, by omega⟩ ⟨hW.2.1, by omega⟩
      have f3 : p = (q0, q1, q2, q3, t, x, y) := by rw [f2]; exact g1
      rw [f3]
      simp only
      rw [show gatherumref38_Lies.f (K + 50) q0 q1 q2 q3 t x y = some (0, 0, W, H) by
        unfold gatherumref38_Lies.f; rw [q04_Box K _ _ _ _ _ _ _ g4 g5 g6 g7, g2]; rfl, Option.bind_some, hof, Option.bind_some]
      rw [if_neg (by simp), if_neg (by simp [g3])]
      exact next
theorem KnifeLies (a0_0 : ByteArray) (a0_1 : Int) (a0_2 : Int) (a0_3 : Int) (a0_4 : Int) (a0_5 : Int) (a0_6 : Int) (a0_7 : Int) (a0_8 : Int) (a0_9 : Int) (a0_10 : Int) (a0_11 : Int) (a0_12 : Int) (a0_13 : Int) (a0_14 : Ov) (a0_15 : Ov) (a0_16 : Int) (a0_17 : Int) (a0_18 : Int) (a0_19 : Int) (a0_20 : Int) (a0_21 : Int) (a0_22 : Int) (a0_23 : Int) (a0_24 : Int) (a0_25 : Int) (a0_26 : Int) (a0_27 : Int) (a0_28 : Int) (a0_29 : Int) (a0_30 : Int) (a0_31 : Int) (a0_32 : Int) (a1_0 : Int) (a1_1 : Int) (a1_2 : Ov) (w0_0 : a0_0.size ≤ maxLen) (w0_1 : (Lit.int .i64 a0_1).wf = true) (w0_2 : (Lit.int .i64 a0_2).wf = true) (w0_3 : (Lit.int .i64 a0_3).wf = true) (w0_4 : (Lit.int .i64 a0_4).wf = true) (w0_5 : (Lit.int .i64 a0_5).wf = true) (w0_6 : (Lit.int .i64 a0_6).wf = true) (w0_7 : (Lit.int .i64 a0_7).wf = true) (w0_8 : (Lit.int .i64 a0_8).wf = true) (w0_9 : (Lit.int .i64 a0_9).wf = true) (w0_10 : (Lit.int .i64 a0_10).wf = true) (w0_11 : (Lit.int .i64 a0_11).wf = true) (w0_12 : (Lit.int .i64 a0_12).wf = true) (w0_13 : (Lit.int .i64 a0_13).wf = true) (w0_16 : (Lit.int .i64 a0_16).wf = true) (w0_17 : (Lit.int .i64 a0_17).wf = true) (w0_18 : (Lit.int .i64 a0_18).wf = true) (w0_19 : (Lit.int .i64 a0_19).wf = true) (w0_20 : (Lit.int .i64 a0_20).wf = true) (w0_21 : (Lit.int .i64 a0_21).wf = true) (w0_22 : (Lit.int .i64 a0_22).wf = true) (w0_23 : (Lit.int .i64 a0_23).wf = true) (w0_24 : (Lit.int .i64 a0_24).wf = true) (w0_25 : (Lit.int .i64 a0_25).wf = true) (w0_26 : (Lit.int .i64 a0_26).wf = true) (w0_27 : (Lit.int .i64 a0_27).wf = true) (w0_28 : (Lit.int .i64 a0_28).wf = true) (w0_29 : (Lit.int .i64 a0_29).wf = true) (w0_30 : (Lit.int .i64 a0_30).wf = true) (w0_31 : (Lit.int .i64 a0_31).wf = true) (w0_32 : (Lit.int .i64 a0_32).wf = true) (w1_0 : (Lit.int .i64 a1_0).wf = true) (w1_1 : (Lit.int .i64 a1_1).wf = true) : ∃ K : Nat, gatherumlaw40_KnifeLies.f K a0_0 a0_1 a0_2 a0_3 a0_4 a0_5 a0_6 a0_7 a0_8 a0_9 a0_10 a0_11 a0_12 a0_13 a0_14 a0_15 a0_16 a0_17 a0_18 a0_19 a0_20 a0_21 a0_22 a0_23 a0_24 a0_25 a0_26 a0_27 a0_28 a0_29 a0_30 a0_31 a0_32 a1_0 a1_1 a1_2 = some true := by
  refine ⟨0 + 50, ?_⟩
  unfold gatherumlaw40_KnifeLies.f
  rw [alive, Option.bind_some, if_neg (by decide)]
  rcases q22May 0 a0_0 a0_1 a0_2 a0_3 a0_4 a0_5 a0_6 a0_7 a0_8 a0_9 a0_10 a0_11 a0_12 a0_13 a0_14 a0_15 a0_16 a0_17 a0_18 a0_19 a0_20 a0_21 a0_22 a0_23 a0_24 a0_25 a0_26 a0_27 a0_28 a0_29 a0_30 a0_31 a0_32 a1_0 a1_1 a1_2 with ⟨h, hp, e⟩ | ⟨h, e⟩
  · rw [e, Option.bind_some, if_neg (by decide), q20Size, Option.bind_some]
    have hr : rns a0_16 = 1 ∨ rns a0_16 = 2 := by unfold rns; split <;> simp
    obtain ⟨d, hd⟩ : ∃ m : Nat, (m : Int) = rns a0_16 := ⟨(rns a0_16).toNat, by omega⟩
    exact liesLoop 0 a0_0 a0_1 a0_2 a0_3 a0_4 a0_5 a0_6 a0_7 a0_8 a0_9 a0_10 a0_11 a0_12 a0_13 a0_14 a0_15 a0_16 a0_17 a0_18 a0_19 a0_20 a0_21 a0_22 a0_23 a0_24 a0_25 a0_26 a0_27 a0_28 a0_29 a0_30 a0_31 a0_32 a1_0 a1_1 a1_2 h hp d 0 (0 + 50) (by omega) (by omega)
  · rw [e]; rfl
end Go.Proofs.Ytbliieckbdacnaa.PureKnifeLies
