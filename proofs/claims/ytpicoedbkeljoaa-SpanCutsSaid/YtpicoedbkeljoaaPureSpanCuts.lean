/- The plain law SpanCuts, over the functions that the executor tells: no Go, no memory. -/
import Derived.Test.YtpicoedbkeljoaaXSpanCuts
import Derived.Test.YtpicoedbkeljoaaAid
namespace Go.Proofs.Ytpicoedbkeljoaa.PureSpanCuts
open Go Go.RowKit Go.Proofs.Ytpicoedbkeljoaa.Sy Go.Proofs.Ytpicoedbkeljoaa.XSpanCuts Go.Proofs.Ytpicoedbkeljoaa.Aid
set_option linter.unusedVariables false
set_option linter.unusedSimpArgs false
def ok_i (x : Int) : Prop := (Lit.int .i64 x).wf = true
set_option maxRecDepth 100000
/-! ### words of the plain laws -/
def emp (a b c d : Int) : Prop := c ≤ a ∨ d ≤ b
instance (a b c d : Int) : Decidable (emp a b c d) := by unfold emp; infer_instance
/-- A rectangle, brought by a place. -/
def bxm (t ax ay a b c d : Int) : Int × Int × Int × Int :=
  (min (wrap64 ((D t a b).1 + ax)) (wrap64 ((D t c d).1 + ax)), min (wrap64 ((D t a b).2 + ay)) (wrap64 ((D t c d).2 + ay)), max (wrap64 ((D t a b).1 + ax)) (wrap64 ((D t c d).1 + ax)), max (wrap64 ((D t a b).2 + ay)) (wrap64 ((D t c d).2 + ay)))
/-- How many plates a sheet has; how it is turned over; where may be printed; where a block may be. -/
def plt (s : Int) : Int := if s = 1 ∨ s = 2 then 2 else if s = 3 ∨ s = 4 then 1 else 0
def flp (s w h : Int) : Int × Int × Int := if plt s = 0 then (0, 0, 0) else if s = 2 ∨ s = 4 then (6, 0, h) else (4, w, 0)
def are (s w h side g t : Int) : Int × Int × Int × Int := if plt s = 0 then (0, 0, 0, 0) else if s = 2 ∨ s = 4 then (side, max g t, wrap64 (w - side), wrap64 (h - max g t)) else (side, g, wrap64 (w - side), wrap64 (h - t))
def reg (s w h : Int) (a : Int × Int × Int × Int) : Int × Int × Int × Int := if s = 3 then (a.1, a.2.1, min a.2.2.1 (w / 2), a.2.2.2) else if s = 4 then (a.1, a.2.1, a.2.2.1, min a.2.2.2 (h / 2)) else a
theorem plt_zero (s : Int) : plt s = 0 ↔ s < 1 ∨ s > 4 := by
  unfold plt
  by_cases h1 : s = 1 ∨ s = 2
  · rw [if_pos h1]; omega
  · rw [if_neg h1]; by_cases h2 : s = 3 ∨ s = 4
    · rw [if_pos h2]; omega
    · rw [if_neg h2]; omega
theorem min_R {a b : Int} (ha : R a) (hb : R b) : R (min a b) := by unfold R at *; omega
theorem max_R {a b : Int} (ha : R a) (hb : R b) : R (max a b) := by unfold R at *; omega
theorem are_R {s w h side g t : Int} (h1 : R side) (h2 : R g) (h3 : R t) : R (are s w h side g t).1 ∧ R (are s w h side g t).2.1 ∧ R (are s w h side g t).2.2.1 ∧ R (are s w h side g t).2.2.2 := by
  unfold are
  have h0 : R 0 := by unfold R; omega
  split
  · exact ⟨h0, h0, h0, h0⟩
  · split
    · exact ⟨h1, max_R h2 h3, R_wrap _, R_wrap _⟩
    · exact ⟨h1, h2, R_wrap _, R_wrap _⟩
theorem mni_eq (a b : Int) : mni a b = min a b := by unfold mni; split <;> omega
theorem mxi_eq (a b : Int) : mxi a b = max a b := by unfold mxi; split <;> omega
/-- A panel's size. -/
def psz (a b c x y z : Int) : Int × Int := (wrap64 (wrap64 (c + a) + b), wrap64 (wrap64 (z + x) + y))
def mt (a b c d a' b' c' d' : Int) : Int × Int × Int × Int := if emp (max a a') (max b b') (min c c') (min d d') then (0, 0, 0, 0) else (max a a', max b b', min c c', min d d')
def wit (a b c d a' b' c' d' : Int) : Prop := emp a b c d ∨ (a' ≤ a ∧ c ≤ c' ∧ b' ≤ b ∧ d ≤ d')
instance (a b c d a' b' c' d' : Int) : Decidable (wit a b c d a' b' c' d') := by unfold wit; infer_instance
/-- What a job's numbers may be. -/
def B15 (j0 : ByteArray) (j1 j2 j3 j4 j5 j6 j7 j8 j9 j10 j11 j12 j13 : Int) (j14 j15 : Ov) (j16 j17 j18 j19 j20 j21 j22 j23 j24 j25 j26 j27 j28 j29 j30 j31 j32 : Int) : Prop := (1 ≤ j1 ∧ j1 ≤ 100000) ∧ (-5000000 ≤ j2 ∧ j2 ≤ 5000000) ∧ (-5000000 ≤ j3 ∧ j3 ≤ 5000000) ∧ (1 ≤ j4 ∧ j4 ≤ 5000000) ∧ (1 ≤ j5 ∧ j5 ≤ 5000000) ∧ (0 ≤ j6 ∧ j6 ≤ 5000000) ∧ (0 ≤ j7 ∧ j7 ≤ 5000000) ∧ (0 ≤ j8 ∧ j8 ≤ 5000000) ∧ (0 ≤ j9 ∧ j9 ≤ 5000000) ∧ (0 ≤ j10 ∧ j10 ≤ 5000000) ∧ (1 ≤ j11 ∧ j11 ≤ 4) ∧ (1 ≤ j16 ∧ j16 ≤ 4) ∧ (1 ≤ j17 ∧ j17 ≤ 5000000) ∧ (1 ≤ j18 ∧ j18 ≤ 5000000) ∧ (0 ≤ j19 ∧ j19 ≤ 5000000) ∧ (0 ≤ j20 ∧ j20 ≤ 5000000) ∧ (0 ≤ j21 ∧ j21 ≤ 5000000) ∧ (0 ≤ j22 ∧ j22 ≤ 100000) ∧ (0 ≤ j23 ∧ j23 ≤ 1000) ∧ (1 ≤ j24 ∧ j24 ≤ 1000) ∧ (0 ≤ j25 ∧ j25 ≤ 3) ∧ (0 ≤ j26 ∧ j26 ≤ 5000000) ∧ (0 ≤ j27 ∧ j27 ≤ 5000000) ∧ (0 ≤ j28 ∧ j28 ≤ 5000000) ∧ (0 ≤ j29 ∧ j29 ≤ 5000000) ∧ (0 ≤ j30 ∧ j30 ≤ 5000000) ∧ (1 ≤ j31 ∧ j31 ≤ 1000) ∧ (0 ≤ j32 ∧ j32 ≤ 5000000)
theorem pdec {p : Prop} [Decidable p] (h : p) : ¬ ((!decide p) = true) := by simp [h]
theorem ndec {p : Prop} [Decidable p] (h : ¬ p) : (!decide p) = true := by simp [h]
theorem qEmp (a b : Int) : gatherumlaw03_empty.f a b = some (decide (b ≤ a)) := rfl
theorem alive : gatherumlaw03_alive.f (150 + 50) = some true := by
  have : span_Minus.f (150 + 50) 0 5 2 3 = some [(0, 2), (3, 5)] := by
    simp [span_Minus.f, span_Empty.f, span_some.f, mni, mxi]
  simp only [gatherumlaw03_alive.f, this]
  simp [span_Has.f]
theorem cap_ge : (100000 : Int) ≤ cap8796093022208 := by unfold cap8796093022208; omega
theorem toNat_nat (n : Nat) : ((n : Nat) : Int).toNat = n := Int.toNat_natCast n
theorem wsucc {n m : Nat} (h : n < m) (hm : m ≤ 100000) : wrap64 ((n : Int) + 1) = ((n + 1 : Nat) : Int) := by rw [wrap_id (by omega) (by omega)]; omega
/-- A span's parts. -/
def cutG (hi : Int) : Int → List Int → List (Int × Int)
  | lo, [] => [(lo, hi)]
  | lo, n :: l => if lo < n ∧ n < hi then (lo, n) :: cutG hi n l else cutG hi lo l
theorem cutG_len (hi : Int) : ∀ (l : List Int) (lo : Int), (cutG hi lo l).length ≤ l.length + 1
  | [], lo => by simp [cutG]
  | n :: l, lo => by
    simp only [cutG]
    split
    · have := cutG_len hi l n; simp; omega
    · have := cutG_len hi l lo; simp; omega
theorem cutLoop (hi : Int) (S : List Int) (hS : S.length ≤ 60) : ∀ (d n k : Nat) (acc : List (Int × Int)) (lo : Int), n + d = S.length → d + 1 ≤ k → acc.length ≤ n → span_Cut.l0 hi S k (n : Int) acc lo = some (acc ++ cutG hi lo (S.drop n)) := by
  have capOk : ∀ acc : List (Int × Int), acc.length ≤ 60 → decide (((acc.length + 1 : Nat) : Int) ≤ cap8796093022208) = true := fun acc ha => by
    have h1 := cap_ge
    generalize cap8796093022208 = C at *
    exact decide_eq_true (by omega)
  intro d
  induction d with
  | zero =>
    intro n k acc lo hd hk ha
    obtain ⟨k, rfl⟩ : ∃ k', k = k' + 1 := ⟨k - 1, by omega⟩
    rw [span_Cut.l0, if_neg (by simp; omega), if_pos (capOk acc (by omega)), List.drop_of_length_le (by omega)]
    rfl
  | succ d ih =>
    intro n k acc lo hd hk ha
    obtain ⟨k, rfl⟩ : ∃ k', k = k' + 1 := ⟨k - 1, by omega⟩
    have hn : n < S.length := by omega
    rw [span_Cut.l0, if_pos (by simp; omega), if_pos (by simp), toNat_nat, List.getElem?_eq_getElem hn, Option.bind_some, wsucc hn (by omega), List.drop_eq_getElem_cons hn]
    simp only [cutG]
    by_cases h1 : lo < S[n]'hn
    · rw [if_pos (by simpa using h1)]
      by_cases h2 : S[n]'hn < hi
      · rw [if_pos (by simpa using h2), if_pos (capOk acc (by omega)), if_pos ⟨h1, h2⟩, ih (n + 1) k _ _ (by omega) (by omega) (by simp; omega), List.append_assoc]
        rfl
      · rw [if_neg (by simpa using h2), if_neg (by omega)]
        exact ih (n + 1) k _ _ (by omega) (by omega) (by omega)
    · rw [if_neg (by simpa using h1), if_neg (by omega)]
      exact ih (n + 1) k _ _ (by omega) (by omega) (by omega)
def chain (A : List Int) (hi : Int) : Int → List (Int × Int) → Prop
  | _, [] => False
  | lo, [x] => x.1 = lo ∧ x.2 = hi ∧ lo < hi
  | lo, x :: y :: l => x.1 = lo ∧ lo < x.2 ∧ x.2 < hi ∧ x.2 ∈ A ∧ chain A hi x.2 (y :: l)
theorem chain_lt {A : List Int} {hi : Int} : ∀ {l : List (Int × Int)} {lo : Int}, chain A hi lo l → lo < hi
  | [x], lo, h => h.2.2
  | x :: y :: l, lo, h => by have := h.2.1; have := h.2.2.1; omega
theorem cut_chain (A : List Int) (hi : Int) : ∀ (l : List Int) (lo : Int), lo < hi → (∀ x ∈ l, x ∈ A) → chain A hi lo (cutG hi lo l)
  | [], lo, h, _ => ⟨rfl, rfl, h⟩
  | n :: l, lo, h, hA => by
    simp only [cutG]
    split
    · rename_i g
      have ih := cut_chain A hi l n g.2 (fun x hx => hA x (by simp [hx]))
      cases hc : cutG hi n l with
      | nil => rw [hc] at ih; exact ih.elim
      | cons y l' => rw [hc] at ih; exact ⟨rfl, g.1, g.2, hA n (by simp), ih⟩
    · exact cut_chain A hi l lo h (fun x hx => hA x (by simp [hx]))
/-- What the chain says, place by place. -/
theorem chain_at {A : List Int} {hi : Int} : ∀ {l : List (Int × Int)} {lo : Int}, chain A hi lo l → ∀ (i : Nat) (h : i < l.length), (l[i]'h).1 < (l[i]'h).2 ∧ lo ≤ (l[i]'h).1 ∧ (l[i]'h).2 ≤ hi
  | [x], lo, h, 0, _ => by obtain ⟨h1, h2, h3⟩ := h; simp only [List.getElem_cons_zero]; omega
  | x :: y :: l, lo, h, 0, _ => by obtain ⟨h1, h2, h3, h4, h5⟩ := h; simp only [List.getElem_cons_zero]; omega
  | x :: y :: l, lo, h, i + 1, hi' => by
    obtain ⟨h1, h2, h3, h4, h5⟩ := h
    have := chain_at h5 i (by simpa using hi')
    simp only [List.getElem_cons_succ] at this ⊢
    omega
theorem chain_next {A : List Int} {hi : Int} : ∀ {l : List (Int × Int)} {lo : Int}, chain A hi lo l → ∀ (i : Nat) (h : i + 1 < l.length), (l[i + 1]'h).1 = (l[i]'(by omega)).2 ∧ (l[i + 1]'h).1 ∈ A
  | [x], lo, h, i, hi' => by simp at hi'
  | [x, y], lo, h, 0, _ => by obtain ⟨h1, h2, h3, h4, h5⟩ := h; simp only [List.getElem_cons_succ, List.getElem_cons_zero]; rw [h5.1]; exact ⟨rfl, h4⟩
  | x :: y :: z :: l, lo, h, 0, _ => by obtain ⟨h1, h2, h3, h4, h5⟩ := h; simp only [List.getElem_cons_succ, List.getElem_cons_zero]; rw [h5.1]; exact ⟨rfl, h4⟩
  | x :: y :: l, lo, h, i + 1, hi' => by
    have := chain_next h.2.2.2.2 i (by simpa using hi')
    simpa only [List.getElem_cons_succ] using this
theorem chain_ends {A : List Int} {hi : Int} : ∀ {l : List (Int × Int)} {lo : Int}, chain A hi lo l → ∃ h : 0 < l.length, (l[0]'h).1 = lo ∧ (l[l.length - 1]'(by omega)).2 = hi
  | [x], lo, h => ⟨by simp, h.1, h.2.1⟩
  | x :: y :: l, lo, h => by
    obtain ⟨q, q1, q2⟩ := chain_ends h.2.2.2.2
    refine ⟨by simp, h.1, ?_⟩
    simpa using q2
theorem cut_out (hi : Int) : ∀ (l : List Int) (lo : Int), lo < hi → l.Pairwise (· ≤ ·) → ∀ x ∈ l, ∀ p ∈ cutG hi lo l, ¬ (p.1 < x ∧ x < p.2)
  | [], lo, h, hp, x, hx => by simp at hx
  | n :: l, lo, h, hp, x, hx => by
    intro p hpm
    rw [List.pairwise_cons] at hp
    simp only [cutG] at hpm
    split at hpm
    · rename_i g
      rcases List.mem_cons.1 hpm with rfl | hpm
      · rcases List.mem_cons.1 hx with rfl | hx
        · simp only; omega
        · have := hp.1 x hx; simp only; omega
      · rcases List.mem_cons.1 hx with rfl | hx
        · obtain ⟨i, hi', rfl⟩ := List.getElem_of_mem hpm
          have := chain_at (cut_chain l hi l x g.2 fun _ h => h) i hi'
          omega
        · exact cut_out hi l n g.2 hp.2 x hx p hpm
    · rename_i g
      rcases List.mem_cons.1 hx with rfl | hx
      · obtain ⟨i, hi', rfl⟩ := List.getElem_of_mem hpm
        have := chain_at (cut_chain l hi l lo h fun _ h => h) i hi'
        omega
      · exact cut_out hi l lo h hp.2 x hx p hpm
theorem risLoop (L : List (Int × Int)) (A : List Int) (lo hi : Int) (hc : chain A hi lo L) (hL : L.length ≤ 61) : ∀ (d n k : Nat), n + d = L.length → d + 1 ≤ k → gatherumlaw03_rising.l0 L lo hi k (n : Int) = some true := by
  intro d
  induction d with
  | zero =>
    intro n k hd hk
    obtain ⟨k, rfl⟩ : ∃ k', k = k' + 1 := ⟨k - 1, by omega⟩
    rw [gatherumlaw03_rising.l0, if_neg (by simp; omega)]
  | succ d ih =>
    intro n k hd hk
    obtain ⟨k, rfl⟩ : ∃ k', k = k' + 1 := ⟨k - 1, by omega⟩
    have hn : n < L.length := by omega
    obtain ⟨c1, c2, c3⟩ := chain_at hc n hn
    have hN := ih (n + 1) k (by omega) (by omega)
    rw [gatherumlaw03_rising.l0, if_pos (by simp; omega), if_pos (by simp), toNat_nat, List.getElem?_eq_getElem hn, Option.bind_some, qEmp, Option.bind_some, if_neg (by simp; omega), if_neg (by simp; omega), if_neg (by simp; omega), wsucc hn (by omega)]
    rcases Nat.eq_zero_or_pos n with rfl | hp
    · rw [if_neg (by decide)]; exact hN
    · have hw : wrap64 ((n : Int) - 1) = ((n - 1 : Nat) : Int) := by rw [wrap_id (by omega) (by omega)]; omega
      have hn1 : n - 1 < L.length := by omega
      obtain ⟨q1, _⟩ := chain_next hc (n - 1) (by omega)
      have q2 : (L[n]'hn).1 = (L[n - 1]'hn1).2 := by
        have e : n - 1 + 1 = n := by omega
        simp only [e] at q1
        exact q1
      rw [if_pos (by simp; omega), hw, if_pos (by simp), if_pos (by simp; omega), toNat_nat, List.getElem?_eq_getElem hn1, Option.bind_some, if_neg (by simp; omega)]
      exact hN
theorem metLoop (j0 : Int → Option Bool) (A : List Int) (L : List (Int × Int)) (hA : A.length ≤ 60) (i : Nat) (hi : i < L.length) (h1 : 1 ≤ i) (hL : L.length ≤ 61) (hq : (L[i]'hi).1 = (L[i - 1]'(by omega)).2) : ∀ (d n k : Nat) (x : Bool), n + d = A.length → d + 1 ≤ k → (x = true ∨ ∃ j, ∃ h : j < A.length, n ≤ j ∧ A[j]'h = (L[i]'hi).1) → gatherumlaw03_SpanCuts.l1 j0 A L (i : Int) k (n : Int) x = j0 (wrap64 ((i : Int) + 1)) := by
  intro d
  induction d with
  | zero =>
    intro n k x hd hk hx
    obtain ⟨k, rfl⟩ : ∃ k', k = k' + 1 := ⟨k - 1, by omega⟩
    have hx' : x = true := by
      rcases hx with h | ⟨j, h, h2, _⟩
      · exact h
      · omega
    subst hx'
    have hw : wrap64 ((i : Int) - 1) = ((i - 1 : Nat) : Int) := by rw [wrap_id (by omega) (by omega)]; omega
    have hi1 : i - 1 < L.length := by omega
    rw [gatherumlaw03_SpanCuts.l1, if_neg (by simp; omega), if_pos (by simp), toNat_nat, List.getElem?_eq_getElem hi, Option.bind_some, hw, if_pos (by simp), if_pos (by simp; omega), toNat_nat, List.getElem?_eq_getElem hi1, Option.bind_some, if_neg (by simp [hq]), if_neg (by decide)]
  | succ d ih =>
    intro n k x hd hk hx
    obtain ⟨k, rfl⟩ : ∃ k', k = k' + 1 := ⟨k - 1, by omega⟩
    have hn : n < A.length := by omega
    rw [gatherumlaw03_SpanCuts.l1, if_pos (by simp; omega), wsucc hn (by omega)]
    cases x
    · rw [if_neg (by decide), if_pos (by simp), toNat_nat, List.getElem?_eq_getElem hn, Option.bind_some, if_pos (by simp), toNat_nat, List.getElem?_eq_getElem hi, Option.bind_some]
      refine ih (n + 1) k _ (by omega) (by omega) ?_
      rcases hx with h | ⟨j, h, h2, h3⟩
      · cases h
      · rcases Nat.eq_or_lt_of_le h2 with rfl | h4
        · exact .inl (by simp [h3])
        · exact .inr ⟨j, h, h4, h3⟩
    · rw [if_pos rfl]
      exact ih (n + 1) k true (by omega) (by omega) (.inl rfl)
theorem outLoop (j2 : Int → Option Bool) (A : List Int) (L : List (Int × Int)) (hL : L.length ≤ 61) (a : Nat) (ha : a < A.length) (ho : ∀ p ∈ L, ¬ (p.1 < A[a]'ha ∧ A[a]'ha < p.2)) : ∀ (d n k : Nat), n + d = L.length → d + 1 ≤ k → gatherumlaw03_SpanCuts.l3 j2 A L (a : Int) k (n : Int) = j2 (wrap64 ((a : Int) + 1)) := by
  intro d
  induction d with
  | zero =>
    intro n k hd hk
    obtain ⟨k, rfl⟩ : ∃ k', k = k' + 1 := ⟨k - 1, by omega⟩
    rw [gatherumlaw03_SpanCuts.l3, if_neg (by simp; omega)]
  | succ d ih =>
    intro n k hd hk
    obtain ⟨k, rfl⟩ : ∃ k', k = k' + 1 := ⟨k - 1, by omega⟩
    have hn : n < L.length := by omega
    have hO := ho _ (List.getElem_mem hn)
    have hN := ih (n + 1) k (by omega) (by omega)
    rw [gatherumlaw03_SpanCuts.l3, if_pos (by simp; omega), if_pos (by simp), toNat_nat, List.getElem?_eq_getElem ha, Option.bind_some, if_pos (by simp), toNat_nat, List.getElem?_eq_getElem hn, Option.bind_some, wsucc hn (by omega)]
    by_cases g : (L[n]'hn).1 < A[a]'ha
    · rw [if_pos (by simpa using g), if_neg (by simp; omega)]; exact hN
    · rw [if_neg (by simpa using g)]; exact hN
theorem outsLoop (K : Nat) (hK : 100 ≤ K) (A : List Int) (hA : A.length ≤ 60) (L : List (Int × Int)) (hL : L.length ≤ 61) (ho : ∀ x ∈ A, ∀ p ∈ L, ¬ (p.1 < x ∧ x < p.2)) : ∀ (d n k : Nat), n + d = A.length → d + 1 ≤ k → gatherumlaw03_SpanCuts.l2 K A L k (n : Int) = some true := by
  intro d
  induction d with
  | zero =>
    intro n k hd hk
    obtain ⟨k, rfl⟩ : ∃ k', k = k' + 1 := ⟨k - 1, by omega⟩
    rw [gatherumlaw03_SpanCuts.l2, if_neg (by simp; omega)]
  | succ d ih =>
    intro n k hd hk
    obtain ⟨k, rfl⟩ : ∃ k', k = k' + 1 := ⟨k - 1, by omega⟩
    have hn : n < A.length := by omega
    rw [gatherumlaw03_SpanCuts.l2, if_pos (by simp; omega)]
    refine (outLoop _ A L hL n hn (ho _ (List.getElem_mem hn)) L.length 0 K (by omega) (by omega)).trans ?_
    rw [wsucc hn (by omega)]
    exact ih (n + 1) k (by omega) (by omega)
theorem metsLoop (K : Nat) (hK : 100 ≤ K) (A : List Int) (hA : A.length ≤ 60) (L : List (Int × Int)) (hL : L.length ≤ 61) (lo hi : Int) (hc : chain A hi lo L) (ho : ∀ x ∈ A, ∀ p ∈ L, ¬ (p.1 < x ∧ x < p.2)) : ∀ (d n k : Nat), 1 ≤ n → n + d = L.length → d + 1 ≤ k → gatherumlaw03_SpanCuts.l0 K A L k (n : Int) = some true := by
  intro d
  induction d with
  | zero =>
    intro n k h1 hd hk
    obtain ⟨k, rfl⟩ : ∃ k', k = k' + 1 := ⟨k - 1, by omega⟩
    rw [gatherumlaw03_SpanCuts.l0, if_neg (by simp; omega)]
    exact outsLoop K hK A hA L hL ho A.length 0 K (by omega) (by omega)
  | succ d ih =>
    intro n k h1 hd hk
    obtain ⟨k, rfl⟩ : ∃ k', k = k' + 1 := ⟨k - 1, by omega⟩
    have hn : n < L.length := by omega
    obtain ⟨q1, q3⟩ := chain_next hc (n - 1) (by omega)
    have e : n - 1 + 1 = n := by omega
    simp only [e] at q1 q3
    obtain ⟨j, hj, hje⟩ := List.getElem_of_mem q3
    rw [gatherumlaw03_SpanCuts.l0, if_pos (by simp; omega)]
    refine (metLoop _ A L hA n hn h1 hL q1 A.length 0 K false (by omega) (by omega) (.inr ⟨j, hj, Nat.zero_le _, hje⟩)).trans ?_
    rw [wsucc hn (by omega)]
    exact ih (n + 1) k (by omega) (by omega) (by omega)
theorem SpanCuts (a0_0 : Int) (a0_1 : Int) (a1 : List (Int)) (a2 : Int) (w0_0 : (Lit.int .i64 a0_0).wf = true) (w0_1 : (Lit.int .i64 a0_1).wf = true) (w1 : (a1.length ≤ maxLen ∧ ∀ x ∈ a1, ok_i x)) (w2 : (Lit.int .i64 a2).wf = true) : ∃ K : Nat, gatherumlaw03_SpanCuts.f K a0_0 a0_1 a1 a2 = some true := by
  refine ⟨150 + 50, ?_⟩
  unfold gatherumlaw03_SpanCuts.f
  rw [alive, Option.bind_some, if_neg (by decide)]
  by_cases hA : a1.length ≤ 60
  case neg => rw [if_pos (by simp; omega)]
  rw [if_neg (by simp; omega)]
  unfold span_Cut.f span_Empty.f
  rw [Option.bind_some]
  by_cases he : a0_1 ≤ a0_0
  · rw [if_pos (by simpa using he), Option.bind_some, qEmp, Option.bind_some, if_pos (by simpa using he)]
    rfl
  have hlt : a0_0 < a0_1 := by omega
  have hS : (a1.mergeSort fun x y => decide (x ≤ y)).length = a1.length := List.length_mergeSort a1
  have hp : (a1.mergeSort fun x y => decide (x ≤ y)).Pairwise (· ≤ ·) := by
    have := List.pairwise_mergeSort (le := fun x y : Int => decide (x ≤ y)) (fun a b c h1 h2 => by simp at *; omega) (fun a b => by simp; omega) a1
    exact this.imp (by simp)
  have hmem : ∀ x, x ∈ (a1.mergeSort fun x y => decide (x ≤ y)) ↔ x ∈ a1 := fun x => List.mem_mergeSort
  rw [if_neg (by simpa using he), show xcli a1 = some a1 by unfold xcli; rw [if_pos (by omega)], Option.bind_some, show xsti a1 = some (a1.mergeSort fun x y => decide (x ≤ y)) by unfold xsti; rw [if_pos (by omega)], Option.bind_some]
  generalize (a1.mergeSort fun x y => decide (x ≤ y)) = S at *
  have C := cutLoop a0_1 S (by omega) S.length 0 (150 + 50) [] a0_0 (by omega) (by omega) (by simp)
  rw [List.drop_zero, List.nil_append] at C
  have hc := cut_chain a1 a0_1 S a0_0 hlt (fun x hx => (hmem x).1 hx)
  have hl := cutG_len a0_1 S a0_0
  have ho : ∀ x ∈ a1, ∀ p ∈ cutG a0_1 a0_0 S, ¬ (p.1 < x ∧ x < p.2) := fun x hx => cut_out a0_1 S a0_0 hlt hp x ((hmem x).2 hx)
  rw [show (0 : Int) = ((0 : Nat) : Int) from rfl, C, Option.bind_some, qEmp, Option.bind_some, if_neg (by simpa using he)]
  generalize cutG a0_1 a0_0 S = L at *
  obtain ⟨h0, q1, q2⟩ := chain_ends hc
  have hr : gatherumlaw03_rising.f (150 + 50) L a0_0 a0_1 = some true := risLoop L a1 a0_0 a0_1 hc (by omega) L.length 0 (150 + 50) (by omega) (by omega)
  have hw : wrap64 (((L.length : Nat) : Int) - 1) = ((L.length - 1 : Nat) : Int) := by rw [wrap_id (by omega) (by omega)]; omega
  have h9 : L.length - 1 < L.length := by omega
  rw [hr, Option.bind_some, if_neg (by decide), if_neg (by simp only [beq_iff_eq]; omega), if_pos (by simp only [decide_eq_true_eq]; omega), toNat_nat, List.getElem?_eq_getElem h0, Option.bind_some, if_neg (by simp [q1]), hw, if_pos (by simp), if_pos (by simp; omega), toNat_nat, List.getElem?_eq_getElem h9, Option.bind_some, if_neg (by simp [q2])]
  exact metsLoop (150 + 50) (by omega) a1 hA L (by omega) a0_0 a0_1 hc ho (L.length - 1) 1 (150 + 50) (by omega) (by omega) (by omega)
end Go.Proofs.Ytpicoedbkeljoaa.PureSpanCuts
