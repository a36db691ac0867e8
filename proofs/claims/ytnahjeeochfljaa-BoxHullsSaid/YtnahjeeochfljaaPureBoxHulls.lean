/- The plain law BoxHulls, over the functions that the executor tells: no Go, no memory. -/
import Derived.Test.YtnahjeeochfljaaXBoxHulls
import Derived.Test.YtnahjeeochfljaaAid
namespace Go.Proofs.Ytnahjeeochfljaa.PureBoxHulls
open Go Go.RowKit Go.Proofs.Ytnahjeeochfljaa.Sy Go.Proofs.Ytnahjeeochfljaa.XBoxHulls Go.Proofs.Ytnahjeeochfljaa.Aid
set_option linter.unusedVariables false
set_option linter.unusedSimpArgs false
def ok_iiii (x : Int × Int × Int × Int) : Prop := (Lit.int .i64 x.1).wf = true ∧ (Lit.int .i64 x.2.1).wf = true ∧ (Lit.int .i64 x.2.2.1).wf = true ∧ (Lit.int .i64 x.2.2.2).wf = true
set_option maxRecDepth 100000
/-! ### words of the plain laws -/
def emp (a b c d : Int) : Prop := c ≤ a ∨ d ≤ b
instance (a b c d : Int) : Decidable (emp a b c d) := by unfold emp; infer_instance
/-- A rectangle, brought by a place. -/
def bxm (t ax ay a b c d : Int) : Int × Int × Int × Int :=
  (min (wrap64 ((D t a b).1 + ax)) (wrap64 ((D t c d).1 + ax)), min (wrap64 ((D t a b).2 + ay)) (wrap64 ((D t c d).2 + ay)), max (wrap64 ((D t a b).1 + ax)) (wrap64 ((D t c d).1 + ax)), max (wrap64 ((D t a b).2 + ay)) (wrap64 ((D t c d).2 + ay)))
/-- How many plates a sheet has; how it is turned over; where may be printed; where a block may be. -/
def plt (s : Int) : Int := if s = 1 ∨ s = 2 then 2 else if s = 3 ∨ s = 4 then 1 else 0
def flp (s w h : Int) : Int × Int × Int := if plt s = 0 then (0, 0, 0) else if s = 2 ∨ s = 4 then (6, 0, h) else (4, w, 0)
def are (s w h side g t : Int) : Int × Int × Int × Int := if plt s = 0 then (0, 0, 0, 0) else if s = 2 ∨ s = 4 then (side, max g t, wrap64 (w - side), wrap64 (h - max g t)) else (side, g, wrap64 (w - side), wrap64 (h - t))
def reg (s w h : Int) (a : Int × Int × Int × Int) : Int × Int × Int × Int := if s = 3 then (a.1, a.2.1, min a.2.2.1 (w / 2), a.2.2.2) else if s = 4 then (a.1, a.2.1, a.2.2.1, min a.2.2.2 (h / 2)) else a
theorem plt_zero (s : Int) : plt s = 0 ↔ s < 1 ∨ s > 4 := by
  unfold plt
  by_cases h1 : s = 1 ∨ s = 2
  · rw [if_pos h1]; omega
  · rw [if_neg h1]; by_cases h2 : s = 3 ∨ s = 4
    · rw [if_pos h2]; omega
    · rw [if_neg h2]; omega
theorem min_R {a b : Int} (ha : R a) (hb : R b) : R (min a b) := by unfold R at *; omega
theorem max_R {a b : Int} (ha : R a) (hb : R b) : R (max a b) := by unfold R at *; omega
theorem are_R {s w h side g t : Int} (h1 : R side) (h2 : R g) (h3 : R t) : R (are s w h side g t).1 ∧ R (are s w h side g t).2.1 ∧ R (are s w h side g t).2.2.1 ∧ R (are s w h side g t).2.2.2 := by
  unfold are
  have h0 : R 0 := by unfold R; omega
  split
  · exact ⟨h0, h0, h0, h0⟩
  · split
    · exact ⟨h1, max_R h2 h3, R_wrap _, R_wrap _⟩
    · exact ⟨h1, h2, R_wrap _, R_wrap _⟩
theorem mni_eq (a b : Int) : mni a b = min a b := by unfold mni; split <;> omega
theorem mxi_eq (a b : Int) : mxi a b = max a b := by unfold mxi; split <;> omega
/-- A panel's size. -/
def psz (a b c x y z : Int) : Int × Int := (wrap64 (wrap64 (c + a) + b), wrap64 (wrap64 (z + x) + y))
def mt (a b c d a' b' c' d' : Int) : Int × Int × Int × Int := if emp (max a a') (max b b') (min c c') (min d d') then (0, 0, 0, 0) else (max a a', max b b', min c c', min d d')
def wit (a b c d a' b' c' d' : Int) : Prop := emp a b c d ∨ (a' ≤ a ∧ c ≤ c' ∧ b' ≤ b ∧ d ≤ d')
instance (a b c d a' b' c' d' : Int) : Decidable (wit a b c d a' b' c' d') := by unfold wit; infer_instance
theorem qbEmpty (a b c d : Int) : box_Empty.f a b c d = some (decide (emp a b c d)) := by
  unfold box_Empty.f emp
  by_cases h : c ≤ a <;> simp [h]
theorem qbSplit (a b c d : Int) (u : Bool) (at_ : Int) (he : ¬ emp a b c d) : box_Split.f a b c d u at_ = some (if u = true then (if a < at_ ∧ at_ < c then [(a, b, at_, d), (at_, b, c, d)] else [(a, b, c, d)]) else (if b < at_ ∧ at_ < d then [(a, b, c, at_), (a, at_, c, d)] else [(a, b, c, d)])) := by
  unfold box_Split.f
  rw [qbEmpty, Option.bind_some, if_neg (by simpa using he)]
  cases u
  · by_cases h1 : b < at_ <;> by_cases h2 : at_ < d <;> simp [h1, h2]
  · by_cases h1 : a < at_ <;> by_cases h2 : at_ < c <;> simp [h1, h2]
theorem qbMeet (a b c d a' b' c' d' : Int) : box_Meet.f a b c d a' b' c' d' = some (mt a b c d a' b' c' d') := by
  simp only [box_Meet.f, qbEmpty, Option.bind_some, mni_eq, mxi_eq, mt]
  by_cases h : emp (max a a') (max b b') (min c c') (min d d') <;> simp [h]
theorem q04_Empty (a b c d : Int) : gatherumref04_Empty.f a b c d = some (decide (emp a b c d)) := by
  unfold gatherumref04_Empty.f emp
  by_cases h : c ≤ a <;> simp [h]
theorem q04_Within (a b c d a' b' c' d' : Int) : gatherumref04_Within.f a b c d a' b' c' d' = some (decide (wit a b c d a' b' c' d')) := by
  simp only [gatherumref04_Within.f, q04_Empty, Option.bind_some, wit]
  by_cases h : emp a b c d <;> by_cases h1 : a' ≤ a <;> by_cases h2 : c ≤ c' <;> by_cases h3 : b' ≤ b <;> simp [h, h1, h2, h3]
theorem alive : gatherumlaw04_alive.f = some true := by decide +kernel
def empR (r : Int × Int × Int × Int) : Prop := emp r.1 r.2.1 r.2.2.1 r.2.2.2
instance (r : Int × Int × Int × Int) : Decidable (empR r) := by unfold empR; infer_instance
def hl : List (Int × Int × Int × Int) → Int × Int × Int × Int → Int × Int × Int × Int
  | [], a => a
  | r :: rs, a => if empR r then hl rs a else if a = (0, 0, 0, 0) then hl rs r else hl rs (min a.1 r.1, min a.2.1 r.2.1, max a.2.2.1 r.2.2.1, max a.2.2.2 r.2.2.2)
theorem hull_loop (L : List (Int × Int × Int × Int)) (hL : L.length < 1000) : ∀ (d k i : Nat) (a : Int × Int × Int × Int), i + d = L.length → d < k → box_Hull.l0 L k i a.1 a.2.1 a.2.2.1 a.2.2.2 = some (hl (L.drop i) a) := by
  intro d
  induction d with
  | zero =>
    intro k i a hi hk
    obtain ⟨k, rfl⟩ : ∃ m, k = m + 1 := ⟨k - 1, by omega⟩
    rw [box_Hull.l0, if_neg (by simp; omega), List.drop_of_length_le (by omega)]
    rfl
  | succ d ih =>
    intro k i a hi hk
    obtain ⟨k, rfl⟩ : ∃ m, k = m + 1 := ⟨k - 1, by omega⟩
    have hlt : i < L.length := by omega
    rw [box_Hull.l0, if_pos (by simp; omega), if_pos (by simp), Int.toNat_natCast, List.getElem?_eq_getElem hlt, Option.bind_some, List.drop_eq_getElem_cons hlt, hl]
    generalize L[i] = r
    rw [qbEmpty, Option.bind_some, wrap_id (by omega) (by omega), show (i : Int) + 1 = ((i + 1 : Nat) : Int) by omega]
    by_cases he : empR r
    · rw [if_pos he, if_pos (by simpa [empR] using he)]
      exact ih k (i + 1) a (by omega) (by omega)
    · rw [if_neg he, if_neg (by simpa [empR] using he)]
      by_cases h0 : a = (0, 0, 0, 0)
      · rw [if_pos h0, if_pos (by subst h0; rfl)]
        exact ih k (i + 1) r (by omega) (by omega)
      · have h0' : ¬ ((a.1 == 0 && (a.2.1 == 0 && (a.2.2.1 == 0 && a.2.2.2 == 0))) = true) := fun h => h0 (by
          obtain ⟨p, q, s, t⟩ := a
          simp at h ⊢
          exact h)
        rw [if_neg h0, if_neg h0', mni_eq, mni_eq, mxi_eq, mxi_eq]
        exact ih k (i + 1) (_, _, _, _) (by omega) (by omega)
/-- What a hull is. -/
theorem hl_none (rs : List (Int × Int × Int × Int)) (a : Int × Int × Int × Int) (h : ∀ r ∈ rs, empR r) : hl rs a = a := by
  induction rs with
  | nil => rfl
  | cons r rs ih => rw [hl, if_pos (h r (by simp))]; exact ih fun x hx => h x (by simp [hx])
theorem hl_some (rs : List (Int × Int × Int × Int)) : ∀ (a : Int × Int × Int × Int), ¬ empR a →
    ((hl rs a).1 ≤ a.1 ∧ (hl rs a).2.1 ≤ a.2.1 ∧ a.2.2.1 ≤ (hl rs a).2.2.1 ∧ a.2.2.2 ≤ (hl rs a).2.2.2) ∧
    (∀ r ∈ rs, ¬ empR r → (hl rs a).1 ≤ r.1 ∧ (hl rs a).2.1 ≤ r.2.1 ∧ r.2.2.1 ≤ (hl rs a).2.2.1 ∧ r.2.2.2 ≤ (hl rs a).2.2.2) ∧
    (a.1 = (hl rs a).1 ∨ ∃ r ∈ rs, ¬ empR r ∧ r.1 = (hl rs a).1) ∧ (a.2.1 = (hl rs a).2.1 ∨ ∃ r ∈ rs, ¬ empR r ∧ r.2.1 = (hl rs a).2.1) ∧
    (a.2.2.1 = (hl rs a).2.2.1 ∨ ∃ r ∈ rs, ¬ empR r ∧ r.2.2.1 = (hl rs a).2.2.1) ∧ (a.2.2.2 = (hl rs a).2.2.2 ∨ ∃ r ∈ rs, ¬ empR r ∧ r.2.2.2 = (hl rs a).2.2.2) := by
  induction rs with
  | nil => intro a _; simp [hl]
  | cons r rs ih =>
    intro a ha
    have ex (p : Int × Int × Int × Int → Prop) : (∃ x ∈ rs, ¬ empR x ∧ p x) → ∃ x ∈ r :: rs, ¬ empR x ∧ p x := fun ⟨x, h1, h2⟩ => ⟨x, by simp [h1], h2⟩
    rw [hl]
    by_cases he : empR r
    · rw [if_pos he]
      obtain ⟨h1, h2, h3, h4, h5, h6⟩ := ih a ha
      exact ⟨h1, fun x hx hne => by rcases List.mem_cons.1 hx with rfl | hx; exact absurd he hne; exact h2 x hx hne, h3.imp id (ex _), h4.imp id (ex _), h5.imp id (ex _), h6.imp id (ex _)⟩
    · rw [if_neg he]
      have ha0 : a ≠ (0, 0, 0, 0) := fun h => ha (by subst h; unfold empR emp; simp)
      rw [if_neg ha0]
      have hm : ¬ empR (min a.1 r.1, min a.2.1 r.2.1, max a.2.2.1 r.2.2.1, max a.2.2.2 r.2.2.2) := by unfold empR emp at *; simp only; omega
      obtain ⟨h1, h2, h3, h4, h5, h6⟩ := ih _ hm
      generalize hl rs (min a.1 r.1, min a.2.1 r.2.1, max a.2.2.1 r.2.2.1, max a.2.2.2 r.2.2.2) = h at *
      simp only at h1 h3 h4 h5 h6
      refine ⟨by clear h3 h4 h5 h6 ex h2; omega, fun x hx hne => ?_, ?_, ?_, ?_, ?_⟩
      · rcases List.mem_cons.1 hx with rfl | hx
        · clear h3 h4 h5 h6 ex h2; omega
        · exact h2 x hx hne
      · rcases h3 with hz | hz
        · clear h4 h5 h6 h2 ex
          rcases Int.le_total a.1 r.1 with hc | hc
          · left; omega
          · right; exact ⟨r, by simp, he, by omega⟩
        · exact Or.inr (ex _ hz)
      · rcases h4 with hz | hz
        · clear h3 h5 h6 h2 ex
          rcases Int.le_total a.2.1 r.2.1 with hc | hc
          · left; omega
          · right; exact ⟨r, by simp, he, by omega⟩
        · exact Or.inr (ex _ hz)
      · rcases h5 with hz | hz
        · clear h3 h4 h6 h2 ex
          rcases Int.le_total a.2.2.1 r.2.2.1 with hc | hc
          · right; exact ⟨r, by simp, he, by omega⟩
          · left; omega
        · exact Or.inr (ex _ hz)
      · rcases h6 with hz | hz
        · clear h3 h4 h5 h2 ex
          rcases Int.le_total a.2.2.2 r.2.2.2 with hc | hc
          · right; exact ⟨r, by simp, he, by omega⟩
          · left; omega
        · exact Or.inr (ex _ hz)
/-- From nothing: all within, each side some one's. -/
theorem hl_zero (rs : List (Int × Int × Int × Int)) : ((∀ r ∈ rs, empR r) ∧ hl rs (0, 0, 0, 0) = (0, 0, 0, 0)) ∨
    ((∀ r ∈ rs, ¬ empR r → (hl rs (0, 0, 0, 0)).1 ≤ r.1 ∧ (hl rs (0, 0, 0, 0)).2.1 ≤ r.2.1 ∧ r.2.2.1 ≤ (hl rs (0, 0, 0, 0)).2.2.1 ∧ r.2.2.2 ≤ (hl rs (0, 0, 0, 0)).2.2.2) ∧
    (∃ r ∈ rs, ¬ empR r ∧ r.1 = (hl rs (0, 0, 0, 0)).1) ∧ (∃ r ∈ rs, ¬ empR r ∧ r.2.1 = (hl rs (0, 0, 0, 0)).2.1) ∧
    (∃ r ∈ rs, ¬ empR r ∧ r.2.2.1 = (hl rs (0, 0, 0, 0)).2.2.1) ∧ (∃ r ∈ rs, ¬ empR r ∧ r.2.2.2 = (hl rs (0, 0, 0, 0)).2.2.2)) := by
  induction rs with
  | nil => exact Or.inl ⟨by simp, rfl⟩
  | cons r rs ih =>
    have ex (p : Int × Int × Int × Int → Prop) : (∃ x ∈ rs, ¬ empR x ∧ p x) → ∃ x ∈ r :: rs, ¬ empR x ∧ p x := fun ⟨x, h1, h2⟩ => ⟨x, by simp [h1], h2⟩
    rw [hl]
    by_cases he : empR r
    · rw [if_pos he]
      rcases ih with ⟨h1, h2⟩ | ⟨h2, h3, h4, h5, h6⟩
      · exact Or.inl ⟨fun x hx => by rcases List.mem_cons.1 hx with rfl | hx; exact he; exact h1 x hx, h2⟩
      · exact Or.inr ⟨fun x hx hne => by rcases List.mem_cons.1 hx with rfl | hx; exact absurd he hne; exact h2 x hx hne, ex _ h3, ex _ h4, ex _ h5, ex _ h6⟩
    · rw [if_neg he, if_pos rfl]
      obtain ⟨h1, h2, h3, h4, h5, h6⟩ := hl_some rs r he
      have me (q : Int × Int × Int × Int → Prop) (h : q r ∨ ∃ x ∈ rs, ¬ empR x ∧ q x) : ∃ x ∈ r :: rs, ¬ empR x ∧ q x := by
        rcases h with h | h
        · exact ⟨r, by simp, he, h⟩
        · exact ex _ h
      exact Or.inr ⟨fun x hx hne => by rcases List.mem_cons.1 hx with rfl | hx; exact h1; exact h2 x hx hne, me (fun x => x.1 = _) h3, me (fun x => x.2.1 = _) h4, me (fun x => x.2.2.1 = _) h5, me (fun x => x.2.2.2 = _) h6⟩
theorem law_loop (L : List (Int × Int × Int × Int)) (hL : L.length < 1000) (h : Int × Int × Int × Int) (hw : ∀ r ∈ L, ¬ empR r → h.1 ≤ r.1 ∧ h.2.1 ≤ r.2.1 ∧ r.2.2.1 ≤ h.2.2.1 ∧ r.2.2.2 ≤ h.2.2.2) :
    ∀ (d k i : Nat) (x1 x2 x3 x4 x5 : Bool), i + d = L.length → d < k → (x1 = false → (∃ r ∈ L.drop i, ¬ empR r) ∨ h = (0, 0, 0, 0)) →
      ((x1 = true ∨ ∃ r ∈ L.drop i, ¬ empR r) → x2 = true ∨ ∃ r ∈ L.drop i, ¬ empR r ∧ r.1 = h.1) → ((x1 = true ∨ ∃ r ∈ L.drop i, ¬ empR r) → x3 = true ∨ ∃ r ∈ L.drop i, ¬ empR r ∧ r.2.1 = h.2.1) →
      ((x1 = true ∨ ∃ r ∈ L.drop i, ¬ empR r) → x4 = true ∨ ∃ r ∈ L.drop i, ¬ empR r ∧ r.2.2.1 = h.2.2.1) → ((x1 = true ∨ ∃ r ∈ L.drop i, ¬ empR r) → x5 = true ∨ ∃ r ∈ L.drop i, ¬ empR r ∧ r.2.2.2 = h.2.2.2) →
      gatherumlaw04_BoxHulls.l0 L h.1 h.2.1 h.2.2.1 h.2.2.2 k i x1 x2 x3 x4 x5 = some true := by
  intro d
  induction d with
  | zero =>
    intro k i x1 x2 x3 x4 x5 hi hk hA h2 h3 h4 h5
    obtain ⟨k, rfl⟩ : ∃ m, k = m + 1 := ⟨k - 1, by omega⟩
    rw [gatherumlaw04_BoxHulls.l0, if_neg (by simp; omega)]
    rw [List.drop_of_length_le (by omega)] at hA h2 h3 h4 h5
    cases x1
    · have := hA rfl
      simp at this
      subst this
      rfl
    · simp at h2 h3 h4 h5
      simp [h2, h3, h4, h5]
  | succ d ih =>
    intro k i x1 x2 x3 x4 x5 hi hk hA h2 h3 h4 h5
    obtain ⟨k, rfl⟩ : ∃ m, k = m + 1 := ⟨k - 1, by omega⟩
    have hlt : i < L.length := by omega
    have hr := hw L[i] (List.getElem_mem hlt)
    rw [List.drop_eq_getElem_cons hlt] at hA h2 h3 h4 h5
    rw [gatherumlaw04_BoxHulls.l0, if_pos (by simp; omega), if_pos (by simp), Int.toNat_natCast, List.getElem?_eq_getElem hlt, Option.bind_some]
    generalize L[i] = r at *
    rw [q04_Empty, Option.bind_some, wrap_id (by omega) (by omega), show (i : Int) + 1 = ((i + 1 : Nat) : Int) by omega]
    by_cases he : empR r
    · rw [if_pos (by simpa [empR] using he)]
      have sk (p : Int × Int × Int × Int → Prop) : (∃ x ∈ r :: L.drop (i + 1), ¬ empR x ∧ p x) → ∃ x ∈ L.drop (i + 1), ¬ empR x ∧ p x := fun ⟨x, y1, y2, y3⟩ => by
        rcases List.mem_cons.1 y1 with e | y1
        · rw [e] at y2; exact absurd he y2
        · exact ⟨x, y1, y2, y3⟩
      have up : (∃ x ∈ L.drop (i + 1), ¬ empR x) → ∃ x ∈ r :: L.drop (i + 1), ¬ empR x := fun ⟨x, h1, h2⟩ => ⟨x, by simp [h1], h2⟩
      have dn : (∃ x ∈ r :: L.drop (i + 1), ¬ empR x) → ∃ x ∈ L.drop (i + 1), ¬ empR x := fun ⟨x, y1, y2⟩ => by
        rcases List.mem_cons.1 y1 with e | y1
        · rw [e] at y2; exact absurd he y2
        · exact ⟨x, y1, y2⟩
      exact ih k (i + 1) x1 x2 x3 x4 x5 (by omega) (by omega) (fun h0 => (hA h0).imp dn id) (fun h0 => (h2 (h0.imp id up)).imp id (sk _)) (fun h0 => (h3 (h0.imp id up)).imp id (sk _)) (fun h0 => (h4 (h0.imp id up)).imp id (sk _)) (fun h0 => (h5 (h0.imp id up)).imp id (sk _))
    · rw [if_neg (by simpa [empR] using he)]
      have hwit : wit r.1 r.2.1 r.2.2.1 r.2.2.2 h.1 h.2.1 h.2.2.1 h.2.2.2 := Or.inr (by have := hr he; omega)
      rw [q04_Within, Option.bind_some, decide_eq_true hwit, if_neg (by decide)]
      have nx (p : Int × Int × Int × Int → Prop) (f : Bool) (q : Bool) (hq : q = true ↔ p r) (hh : (x1 = true ∨ ∃ x ∈ r :: L.drop (i + 1), ¬ empR x) → f = true ∨ ∃ x ∈ r :: L.drop (i + 1), ¬ empR x ∧ p x) :
          (f || q) = true ∨ ∃ x ∈ L.drop (i + 1), ¬ empR x ∧ p x := by
        rcases hh (Or.inr ⟨r, by simp, he⟩) with h0 | ⟨x, y1, y2, y3⟩
        · left; simp [h0]
        · rcases List.mem_cons.1 y1 with e | y1
          · rw [e] at y3; left; simp [hq.2 y3]
          · exact Or.inr ⟨x, y1, y2, y3⟩
      have n2 := nx (fun x => x.1 = h.1) x2 (r.1 == h.1) (by simp) h2
      have n3 := nx (fun x => x.2.1 = h.2.1) x3 (r.2.1 == h.2.1) (by simp) h3
      have n4 := nx (fun x => x.2.2.1 = h.2.2.1) x4 (r.2.2.1 == h.2.2.1) (by simp) h4
      have n5 := nx (fun x => x.2.2.2 = h.2.2.2) x5 (r.2.2.2 == h.2.2.2) (by simp) h5
      have fin := ih k (i + 1) true (x2 || (r.1 == h.1)) (x3 || (r.2.1 == h.2.1)) (x4 || (r.2.2.1 == h.2.2.1)) (x5 || (r.2.2.2 == h.2.2.2)) (by omega) (by omega) (fun h0 => by cases h0) (fun _ => n2) (fun _ => n3) (fun _ => n4) (fun _ => n5)
      cases x2 <;> cases x3 <;> cases x4 <;> cases x5 <;> simpa only [Bool.true_or, Bool.false_or, Bool.false_eq_true, if_true, if_false] using fin
theorem BoxHulls (a0 : List (Int × Int × Int × Int)) (w0 : (a0.length ≤ maxLen ∧ ∀ x ∈ a0, ok_iiii x)) : ∃ K : Nat, gatherumlaw04_BoxHulls.f K a0 = some true := by
  refine ⟨50, ?_⟩
  unfold gatherumlaw04_BoxHulls.f
  rw [alive, Option.bind_some, if_neg (by decide)]
  by_cases hlen : (40 : Int) < ((a0.length : Nat) : Int)
  · rw [if_pos (by simpa using hlen)]
  · rw [if_neg (by simpa using hlen)]
    have hh := hull_loop a0 (by omega) a0.length 50 0 (0, 0, 0, 0) (by omega) (by omega)
    have hh' : box_Hull.f 50 a0 = some (hl a0 (0, 0, 0, 0)) := hh
    rw [hh', Option.bind_some]
    rcases hl_zero a0 with ⟨h1, h2⟩ | ⟨h1, h2, h3, h4, h5⟩
    · exact law_loop a0 (by omega) _ (fun r hr hne => absurd (h1 r hr) hne) a0.length 50 0 false false false false false (by omega) (by omega) (fun _ => Or.inr h2) (fun h0 => by rcases h0 with h0 | ⟨r, hr, hne⟩; cases h0; exact absurd (h1 r (by simpa using hr)) hne) (fun h0 => by rcases h0 with h0 | ⟨r, hr, hne⟩; cases h0; exact absurd (h1 r (by simpa using hr)) hne) (fun h0 => by rcases h0 with h0 | ⟨r, hr, hne⟩; cases h0; exact absurd (h1 r (by simpa using hr)) hne) (fun h0 => by rcases h0 with h0 | ⟨r, hr, hne⟩; cases h0; exact absurd (h1 r (by simpa using hr)) hne)
    · obtain ⟨r, hr, hne, _⟩ := id h2
      exact law_loop a0 (by omega) _ h1 a0.length 50 0 false false false false false (by omega) (by omega) (fun _ => Or.inl ⟨r, by simpa using hr, hne⟩) (fun _ => Or.inr (by simpa using h2)) (fun _ => Or.inr (by simpa using h3)) (fun _ => Or.inr (by simpa using h4)) (fun _ => Or.inr (by simpa using h5))
end Go.Proofs.Ytnahjeeochfljaa.PureBoxHulls
