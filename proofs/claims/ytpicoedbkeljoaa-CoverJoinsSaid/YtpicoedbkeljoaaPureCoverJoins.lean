/- The plain law CoverJoins, over the functions that the executor tells: no Go, no memory. -/
import Derived.Test.YtpicoedbkeljoaaXCoverJoins
import Derived.Test.YtpicoedbkeljoaaAid
namespace Go.Proofs.Ytpicoedbkeljoaa.PureCoverJoins
open Go Go.RowKit Go.Proofs.Ytpicoedbkeljoaa.Sy Go.Proofs.Ytpicoedbkeljoaa.XCoverJoins Go.Proofs.Ytpicoedbkeljoaa.Aid
set_option linter.unusedVariables false
set_option linter.unusedSimpArgs false

set_option maxRecDepth 100000
/-! ### words of the plain laws -/
def emp (a b c d : Int) : Prop := c ≤ a ∨ d ≤ b
instance (a b c d : Int) : Decidable (emp a b c d) := by unfold emp; infer_instance
/-- A rectangle, brought by a place. -/
def bxm (t ax ay a b c d : Int) : Int × Int × Int × Int :=
  (min (wrap64 ((D t a b).1 + ax)) (wrap64 ((D t c d).1 + ax)), min (wrap64 ((D t a b).2 + ay)) (wrap64 ((D t c d).2 + ay)), max (wrap64 ((D t a b).1 + ax)) (wrap64 ((D t c d).1 + ax)), max (wrap64 ((D t a b).2 + ay)) (wrap64 ((D t c d).2 + ay)))
/-- How many plates a sheet has; how it is turned over; where may be printed; where a block may be. -/
def plt (s : Int) : Int := if s = 1 ∨ s = 2 then 2 else if s = 3 ∨ s = 4 then 1 else 0
def flp (s w h : Int) : Int × Int × Int := if plt s = 0 then (0, 0, 0) else if s = 2 ∨ s = 4 then (6, 0, h) else (4, w, 0)
def are (s w h side g t : Int) : Int × Int × Int × Int := if plt s = 0 then (0, 0, 0, 0) else if s = 2 ∨ s = 4 then (side, max g t, wrap64 (w - side), wrap64 (h - max g t)) else (side, g, wrap64 (w - side), wrap64 (h - t))
def reg (s w h : Int) (a : Int × Int × Int × Int) : Int × Int × Int × Int := if s = 3 then (a.1, a.2.1, min a.2.2.1 (w / 2), a.2.2.2) else if s = 4 then (a.1, a.2.1, a.2.2.1, min a.2.2.2 (h / 2)) else a
theorem plt_zero (s : Int) : plt s = 0 ↔ s < 1 ∨ s > 4 := by
  unfold plt
  by_cases h1 : s = 1 ∨ s = 2
  · rw [if_pos h1]; omega
  · rw [if_neg h1]; by_cases h2 : s = 3 ∨ s = 4
    · rw [if_pos h2]; omega
    · rw [if_neg h2]; omega
theorem min_R {a b : Int} (ha : R a) (hb : R b) : R (min a b) := by unfold R at *; omega
theorem max_R {a b : Int} (ha : R a) (hb : R b) : R (max a b) := by unfold R at *; omega
theorem are_R {s w h side g t : Int} (h1 : R side) (h2 : R g) (h3 : R t) : R (are s w h side g t).1 ∧ R (are s w h side g t).2.1 ∧ R (are s w h side g t).2.2.1 ∧ R (are s w h side g t).2.2.2 := by
  unfold are
  have h0 : R 0 := by unfold R; omega
  split
  · exact ⟨h0, h0, h0, h0⟩
  · split
    · exact ⟨h1, max_R h2 h3, R_wrap _, R_wrap _⟩
    · exact ⟨h1, h2, R_wrap _, R_wrap _⟩
theorem mni_eq (a b : Int) : mni a b = min a b := by unfold mni; split <;> omega
theorem mxi_eq (a b : Int) : mxi a b = max a b := by unfold mxi; split <;> omega
/-- A panel's size. -/
def psz (a b c x y z : Int) : Int × Int := (wrap64 (wrap64 (c + a) + b), wrap64 (wrap64 (z + x) + y))
def mt (a b c d a' b' c' d' : Int) : Int × Int × Int × Int := if emp (max a a') (max b b') (min c c') (min d d') then (0, 0, 0, 0) else (max a a', max b b', min c c', min d d')
def wit (a b c d a' b' c' d' : Int) : Prop := emp a b c d ∨ (a' ≤ a ∧ c ≤ c' ∧ b' ≤ b ∧ d ≤ d')
instance (a b c d a' b' c' d' : Int) : Decidable (wit a b c d a' b' c' d') := by unfold wit; infer_instance
/-- What a job's numbers may be. -/
def B15 (j0 : ByteArray) (j1 j2 j3 j4 j5 j6 j7 j8 j9 j10 j11 j12 j13 : Int) (j14 j15 : Ov) (j16 j17 j18 j19 j20 j21 j22 j23 j24 j25 j26 j27 j28 j29 j30 j31 j32 : Int) : Prop := (1 ≤ j1 ∧ j1 ≤ 100000) ∧ (-5000000 ≤ j2 ∧ j2 ≤ 5000000) ∧ (-5000000 ≤ j3 ∧ j3 ≤ 5000000) ∧ (1 ≤ j4 ∧ j4 ≤ 5000000) ∧ (1 ≤ j5 ∧ j5 ≤ 5000000) ∧ (0 ≤ j6 ∧ j6 ≤ 5000000) ∧ (0 ≤ j7 ∧ j7 ≤ 5000000) ∧ (0 ≤ j8 ∧ j8 ≤ 5000000) ∧ (0 ≤ j9 ∧ j9 ≤ 5000000) ∧ (0 ≤ j10 ∧ j10 ≤ 5000000) ∧ (1 ≤ j11 ∧ j11 ≤ 4) ∧ (1 ≤ j16 ∧ j16 ≤ 4) ∧ (1 ≤ j17 ∧ j17 ≤ 5000000) ∧ (1 ≤ j18 ∧ j18 ≤ 5000000) ∧ (0 ≤ j19 ∧ j19 ≤ 5000000) ∧ (0 ≤ j20 ∧ j20 ≤ 5000000) ∧ (0 ≤ j21 ∧ j21 ≤ 5000000) ∧ (0 ≤ j22 ∧ j22 ≤ 100000) ∧ (0 ≤ j23 ∧ j23 ≤ 1000) ∧ (1 ≤ j24 ∧ j24 ≤ 1000) ∧ (0 ≤ j25 ∧ j25 ≤ 3) ∧ (0 ≤ j26 ∧ j26 ≤ 5000000) ∧ (0 ≤ j27 ∧ j27 ≤ 5000000) ∧ (0 ≤ j28 ∧ j28 ≤ 5000000) ∧ (0 ≤ j29 ∧ j29 ≤ 5000000) ∧ (0 ≤ j30 ∧ j30 ≤ 5000000) ∧ (1 ≤ j31 ∧ j31 ≤ 1000) ∧ (0 ≤ j32 ∧ j32 ≤ 5000000)
theorem pdec {p : Prop} [Decidable p] (h : p) : ¬ ((!decide p) = true) := by simp [h]
theorem ndec {p : Prop} [Decidable p] (h : ¬ p) : (!decide p) = true := by simp [h]
theorem q04_Empty (a b c d : Int) : gatherumref04_Empty.f a b c d = some (decide (emp a b c d)) := by
  unfold gatherumref04_Empty.f emp
  by_cases h : c ≤ a <;> simp [h]
theorem q04_high (a b : Int) : gatherumref04_high.f a b = some (max a b) := by
  unfold gatherumref04_high.f
  by_cases h : b < a
  · rw [if_pos (by simpa using h)]; congr 1; omega
  · rw [if_neg (by simpa using h)]; congr 1; omega
theorem q04_low (a b : Int) : gatherumref04_low.f a b = some (min a b) := by
  unfold gatherumref04_low.f
  by_cases h : a < b
  · rw [if_pos (by simpa using h)]; congr 1; omega
  · rw [if_neg (by simpa using h)]; congr 1; omega
theorem q04_Meet (a b c d a' b' c' d' : Int) : gatherumref04_Meet.f a b c d a' b' c' d' = some (mt a b c d a' b' c' d') := by
  simp only [gatherumref04_Meet.f, q04_low, q04_high, q04_Empty, Option.bind_some, mt]
  by_cases h : emp (max a a') (max b b') (min c c') (min d d') <;> simp [h]
theorem qbEmpty (a b c d : Int) : box_Empty.f a b c d = some (decide (emp a b c d)) := by
  unfold box_Empty.f emp
  by_cases h : c ≤ a <;> simp [h]
/-! ### sums over a stretch of whole numbers -/
def sumI (f : Int → Int) (a : Int) : Nat → Int
  | 0 => 0
  | k + 1 => sumI f a k + f (a + (k : Int))
def ind (p : Bool) : Int := if p = true then 1 else 0
theorem sumI_congr {f g : Int → Int} {a : Int} : ∀ {k : Nat}, (∀ y, a ≤ y → y < a + (k : Int) → f y = g y) → sumI f a k = sumI g a k
  | 0, _ => rfl
  | k + 1, h => by
    have ih := sumI_congr (f := f) (g := g) (a := a) (k := k) fun y h1 h2 => h y h1 (by omega)
    simp only [sumI, ih, h (a + (k : Int)) (by omega) (by omega)]
theorem sumI_add (f g : Int → Int) (a : Int) : ∀ k : Nat, sumI (fun y => f y + g y) a k = sumI f a k + sumI g a k
  | 0 => rfl
  | k + 1 => by simp only [sumI, sumI_add f g a k]; omega
theorem sumI_sub (f g : Int → Int) (a : Int) : ∀ k : Nat, sumI (fun y => f y - g y) a k = sumI f a k - sumI g a k
  | 0 => rfl
  | k + 1 => by simp only [sumI, sumI_sub f g a k]; omega
theorem sumI_zero {f : Int → Int} {a : Int} : ∀ {k : Nat}, (∀ y, a ≤ y → y < a + (k : Int) → f y = 0) → sumI f a k = 0
  | 0, _ => rfl
  | k + 1, h => by
    simp only [sumI, sumI_zero (f := f) (a := a) (k := k) fun y h1 h2 => h y h1 (by omega), h (a + (k : Int)) (by omega) (by omega)]
    rfl
theorem sumI_const {f : Int → Int} {a c : Int} : ∀ {k : Nat}, (∀ y, a ≤ y → y < a + (k : Int) → f y = c) → sumI f a k = (k : Int) * c
  | 0, _ => by simp [sumI]
  | k + 1, h => by
    simp only [sumI, sumI_const (f := f) (a := a) (c := c) (k := k) fun y h1 h2 => h y h1 (by omega), h (a + (k : Int)) (by omega) (by omega)]
    rw [Int.natCast_succ, Int.add_mul, Int.one_mul]
theorem sumI_split (f : Int → Int) (a : Int) (k : Nat) : ∀ m : Nat, sumI f a (k + m) = sumI f a k + sumI f (a + (k : Int)) m
  | 0 => by simp [sumI]
  | m + 1 => by
    have ih := sumI_split f a k m
    rw [← Nat.add_assoc]
    simp only [sumI, ih]
    rw [show a + ((k + m : Nat) : Int) = a + (k : Int) + (m : Int) by omega]
    omega
/-- From a to b, both given. -/
def sumR (f : Int → Int) (a b : Int) : Int := sumI f a (b - a).toNat
theorem sumR_split {f : Int → Int} {a b c : Int} (h1 : a ≤ b) (h2 : b ≤ c) : sumR f a c = sumR f a b + sumR f b c := by
  unfold sumR
  have h3 : (c - a).toNat = (b - a).toNat + (c - b).toNat := by omega
  rw [h3, sumI_split, show a + ((b - a).toNat : Int) = b by omega]
theorem sumR_congr {f g : Int → Int} {a b : Int} (h : ∀ y, a ≤ y → y < b → f y = g y) : sumR f a b = sumR g a b :=
  sumI_congr fun y h1 h2 => h y h1 (by omega)
theorem sumR_zero {f : Int → Int} {a b : Int} (h : ∀ y, a ≤ y → y < b → f y = 0) : sumR f a b = 0 :=
  sumI_zero fun y h1 h2 => h y h1 (by omega)
theorem sumR_const {f : Int → Int} {a b c : Int} (hab : a ≤ b) (h : ∀ y, a ≤ y → y < b → f y = c) : sumR f a b = (b - a) * c := by
  unfold sumR
  rw [sumI_const (c := c) fun y h1 h2 => h y h1 (by omega), show (((b - a).toNat : Nat) : Int) = b - a by omega]
theorem sumR_add (f g : Int → Int) (a b : Int) : sumR (fun y => f y + g y) a b = sumR f a b + sumR g a b := sumI_add _ _ _ _
theorem sumR_sub (f g : Int → Int) (a b : Int) : sumR (fun y => f y - g y) a b = sumR f a b - sumR g a b := sumI_sub _ _ _ _
/-- A stretch within a stretch. -/
theorem sumR_ind {a b A B c : Int} (h1 : A ≤ a) (h2 : a ≤ b) (h3 : b ≤ B) : sumR (fun y => ind (decide (a ≤ y) && decide (y < b)) * c) A B = (b - a) * c := by
  rw [sumR_split (b := a) h1 (by omega), sumR_split (a := a) (b := b) h2 h3]
  have z : ∀ y, y < a ∨ b ≤ y → ind (decide (a ≤ y) && decide (y < b)) * c = 0 := fun y hy => by
    have : (decide (a ≤ y) && decide (y < b)) = false := by
      rw [Bool.eq_false_iff]; simp; omega
    rw [this]; simp [ind]
  rw [sumR_zero (a := A) (b := a) fun y g1 g2 => z y (by omega)]
  rw [sumR_zero (a := b) (b := B) fun y g1 g2 => z y (by omega)]
  rw [sumR_const (c := c) h2 fun y g1 g2 => by simp [ind, g1, g2]]
  omega
/-! ### a sweep over edges -/
abbrev Ed := Int × Int
/-- What the edges up to y sum to. -/
def tot : List Ed → Int → Int
  | [], _ => 0
  | e :: E, y => (if e.1 ≤ y then e.2 else 0) + tot E y
def allE : List Ed → Int
  | [] => 0
  | e :: E => e.2 + allE E
def sw (n : Int) : List Ed → Int → Int → Int
  | [], _, _ => 0
  | e :: E, d, p => (if n ≤ d then e.1 - p else 0) + sw n E (d + e.2) e.1
theorem tot_below : ∀ {E : List Ed} {y : Int}, (∀ e ∈ E, y < e.1) → tot E y = 0
  | [], _, _ => rfl
  | e :: E, y, h => by
    have h1 := h e (by simp)
    simp only [tot]
    rw [if_neg (by omega), tot_below fun e he => h e (by simp [he])]; rfl
theorem sw_eq (n : Int) : ∀ (E : List Ed) (d p B : Int), (∀ e ∈ E, p ≤ e.1 ∧ e.1 ≤ B) → E.Pairwise (fun a b => a.1 ≤ b.1) → p ≤ B → d + allE E < n →
    sw n E d p = sumR (fun y => ind (decide (n ≤ d + tot E y))) p B
  | [], d, p, B, _, _, hp, hn => by
    simp only [allE] at hn
    simp only [sw]
    rw [sumR_zero fun y _ _ => by simp [ind, tot]; omega]
  | e :: E, d, p, B, h, hs, hp, hn => by
    obtain ⟨h1, h2⟩ := h e (by simp)
    obtain ⟨h3, h4⟩ := List.pairwise_cons.1 hs
    simp only [allE] at hn
    simp only [sw]
    rw [sw_eq n E (d + e.2) e.1 B (fun x hx => ⟨h3 x hx, (h x (by simp [hx])).2⟩) h4 h2 (by omega), sumR_split h1 h2]
    congr 1
    · rw [sumR_const (c := ind (decide (n ≤ d))) h1 fun y g1 g2 => ?_]
      · by_cases hd : n ≤ d <;> simp [ind, hd]
      · have : tot (e :: E) y = 0 := tot_below fun x hx => by
          rcases List.mem_cons.1 hx with rfl | hx
          · exact g2
          · have := h3 x hx; omega
        simp only [this]; simp
    · refine sumR_congr fun y g1 g2 => ?_
      have : d + tot (e :: E) y = d + e.2 + tot E y := by simp only [tot]; rw [if_pos g1]; omega
      simp only [this]
theorem tot_perm {E E' : List Ed} (h : E.Perm E') (y : Int) : tot E y = tot E' y := by
  induction h with
  | nil => rfl
  | cons x _ ih => simp only [tot, ih]
  | swap a b l => simp only [tot]; omega
  | trans _ _ h1 h2 => rw [h1, h2]
theorem allE_perm {E E' : List Ed} (h : E.Perm E') : allE E = allE E' := by
  induction h with
  | nil => rfl
  | cons x _ ih => simp only [allE, ih]
  | swap a b l => simp only [allE]; omega
  | trans _ _ h1 h2 => rw [h1, h2]
theorem tot_append : ∀ (E E' : List Ed) (y : Int), tot (E ++ E') y = tot E y + tot E' y
  | [], E', y => by simp [tot]
  | e :: E, E', y => by simp only [List.cons_append, tot, tot_append E E' y]; omega
theorem allE_append : ∀ (E E' : List Ed), allE (E ++ E') = allE E + allE E'
  | [], E' => by simp [allE]
  | e :: E, E' => by simp only [List.cons_append, allE, allE_append E E']; omega
/-! ### rectangles, and how many have a point -/
abbrev Rc := Int × Int × Int × Int
def inX (r : Rc) (x : Int) : Bool := decide (r.1 ≤ x) && decide (x < r.2.2.1)
def inY (r : Rc) (y : Int) : Bool := decide (r.2.1 ≤ y) && decide (y < r.2.2.2)
def cY : List Rc → Int → Int
  | [], _ => 0
  | r :: l, y => ind (inY r y) + cY l y
def cXY : List Rc → Int → Int → Int
  | [], _, _ => 0
  | r :: l, x, y => ind (inX r x && inY r y) + cXY l x y
def edg : List Rc → List Ed
  | [] => []
  | r :: l => (r.2.1, 1) :: (r.2.2.2, -1) :: edg l
/-- Not empty. -/
def full (r : Rc) : Prop := r.1 < r.2.2.1 ∧ r.2.1 < r.2.2.2
theorem edg_tot : ∀ {l : List Rc}, (∀ r ∈ l, full r) → ∀ y, tot (edg l) y = cY l y
  | [], _, y => rfl
  | r :: l, h, y => by
    have h1 := (h r (by simp)).2
    have ih := edg_tot (l := l) (fun q hq => h q (List.mem_cons_of_mem _ hq)) y
    simp only [edg, tot, cY, ih, ind, inY]
    by_cases g1 : r.2.1 ≤ y
    · by_cases g2 : r.2.2.2 ≤ y
      · simp [g1, g2, show ¬ y < r.2.2.2 by omega]; omega
      · simp [g1, g2, show y < r.2.2.2 by omega]
    · simp [g1, show ¬ r.2.2.2 ≤ y by omega]
theorem edg_all : ∀ (l : List Rc), allE (edg l) = 0
  | [] => rfl
  | r :: l => by simp only [edg, allE, edg_all l]; rfl
theorem edg_append : ∀ (l l' : List Rc), edg (l ++ l') = edg l ++ edg l'
  | [], l' => rfl
  | r :: l, l' => by simp only [List.cons_append, edg, edg_append l l']
theorem edg_mem : ∀ {l : List Rc} {e : Ed}, e ∈ edg l → ∃ r ∈ l, e.1 = r.2.1 ∨ e.1 = r.2.2.2
  | r :: l, e, h => by
    simp only [edg, List.mem_cons] at h
    rcases h with rfl | rfl | h
    · exact ⟨r, by simp, .inl rfl⟩
    · exact ⟨r, by simp, .inr rfl⟩
    · obtain ⟨q, h1, h2⟩ := edg_mem h
      exact ⟨q, by simp [h1], h2⟩
/-- The heights of a strip: what the sweep sums to. -/
theorem sw_strip {n A B : Int} {l : List Rc} {E : List Ed} (hn : 1 ≤ n) (hl : ∀ r ∈ l, full r) (hb : ∀ r ∈ l, A ≤ r.2.1 ∧ r.2.2.2 ≤ B) (hA : A ≤ B) (hE : E.Perm (edg l)) (hs : E.Pairwise (fun a b => a.1 ≤ b.1)) :
    sw n E 0 A = sumR (fun y => ind (decide (n ≤ cY l y))) A B := by
  rw [sw_eq n E 0 A B (fun e he => ?_) hs hA (by rw [allE_perm hE, edg_all]; omega)]
  · refine sumR_congr fun y _ _ => ?_
    rw [tot_perm hE, edg_tot hl, Int.zero_add]
  · obtain ⟨r, h1, h2⟩ := edg_mem (hE.mem_iff.1 he)
    have h3 := hb r h1
    have h4 := (hl r h1).2
    rcases h2 with h2 | h2 <;> omega
/-- .. where the first edge begins is all one. -/
theorem sw_start {n p q : Int} (hn : 1 ≤ n) : ∀ (E : List Ed), sw n E 0 p = sw n E 0 q
  | [] => rfl
  | e :: E => by simp only [sw]; rw [if_neg (by omega), if_neg (by omega)]
/-! ### columns -/
def stripOf (l : List Rc) (p q : Int) : List Rc := l.filter fun r => decide (r.1 ≤ p) && decide (q ≤ r.2.2.1)
def sw2 (h : Int → Int → Int) : Int → List Int → Int
  | _, [] => 0
  | p, q :: X => (q - p) * h p q + sw2 h q X
theorem sw2_eq {h : Int → Int → Int} {H : Int → Int} {B : Int} : ∀ {X : List Int} {p : Int}, (p :: X).Pairwise (· < ·) → (∀ x ∈ p :: X, x ≤ B) → (∀ i a b, (p :: X)[i]? = some a → (p :: X)[i + 1]? = some b → ∀ x, a ≤ x → x < b → h a b = H x) →
    (∀ x, (∀ y ∈ p :: X, y ≤ x) → x < B → H x = 0) → sw2 h p X = sumR H p B
  | [], p, hs, hB, _, h0 => by
    simp only [sw2]
    rw [sumR_zero fun x g1 g2 => h0 x (by simpa using g1) g2]
  | q :: X, p, hs, hB, hh, h0 => by
    obtain ⟨h1, h2⟩ := List.pairwise_cons.1 hs
    have hpq : p < q := h1 q (by simp)
    have hqB : q ≤ B := hB q (by simp)
    simp only [sw2]
    rw [sw2_eq (H := H) h2 (fun x hx => hB x (List.mem_cons_of_mem _ hx)) (fun i a b ha hb => hh (i + 1) a b (by simpa using ha) (by simpa using hb)) (fun x hx hxB => h0 x (fun y hy => by
      rcases List.mem_cons.1 hy with rfl | hy
      · have := hx q (by simp); omega
      · exact hx y hy) hxB), sumR_split (f := H) (a := p) (b := q) (c := B) (by omega) hqB]
    congr 1
    rw [sumR_const (c := h p q) (by omega) fun x g1 g2 => (hh 0 p q rfl rfl x g1 g2).symm]
theorem cY_filter : ∀ (l : List Rc) (x y : Int), cY (l.filter fun r => inX r x) y = cXY l x y
  | [], x, y => rfl
  | r :: l, x, y => by
    by_cases h : inX r x = true
    · rw [List.filter_cons_of_pos (p := fun r => inX r x) h]; simp only [cY, cXY, cY_filter l x y, h, Bool.true_and]
    · rw [List.filter_cons_of_neg (p := fun r => inX r x) h]
      simp only [cXY, cY_filter l x y]
      simp [h, ind]
theorem cXY_none : ∀ {l : List Rc} {x : Int}, (∀ r ∈ l, inX r x = false) → ∀ y, cXY l x y = 0
  | [], _, _, _ => rfl
  | r :: l, x, h, y => by
    simp only [cXY, h r (by simp), Bool.false_and]
    rw [cXY_none fun r hr => h r (by simp [hr])]; rfl
theorem cXY_append : ∀ (l l' : List Rc) (x y : Int), cXY (l ++ l') x y = cXY l x y + cXY l' x y
  | [], l', x, y => by simp [cXY]
  | r :: l, l', x, y => by simp only [List.cons_append, cXY, cXY_append l l' x y]; omega
theorem cXY_nonneg : ∀ (l : List Rc) (x y : Int), 0 ≤ cXY l x y
  | [], x, y => Int.le_refl _
  | r :: l, x, y => by
    have := cXY_nonneg l x y
    simp only [cXY, ind]
    split <;> omega
/-- How great all is that is in n rectangles or more. -/
def meas (n : Int) (l : List Rc) (A B : Int) : Int := sumR (fun x => sumR (fun y => ind (decide (n ≤ cXY l x y))) A B) A B
/-- The columns: what they sum to. -/
theorem sw2_meas {n A B : Int} {l : List Rc} {X : List Int} {p : Int} {h : Int → Int → Int} (hn : 1 ≤ n) (hs : (p :: X).Pairwise (· < ·)) (hm : ∀ x, x ∈ p :: X ↔ ∃ r ∈ l, x = r.1 ∨ x = r.2.2.1) (hb : ∀ r ∈ l, A ≤ r.1 ∧ r.2.2.1 ≤ B) (hf : ∀ r ∈ l, full r) (hA : A ≤ B)
    (hh : ∀ a b, h a b = sumR (fun y => ind (decide (n ≤ cY (stripOf l a b) y))) A B) : sw2 h p X = meas n l A B := by
  have hp : A ≤ p ∧ p ≤ B := by
    obtain ⟨r, h1, h2⟩ := (hm p).1 (by simp)
    have h3 := hb r h1; have h4 := (hf r h1).1
    rcases h2 with h2 | h2 <;> omega
  have hle : ∀ x ∈ X, p < x := (List.pairwise_cons.1 hs).1
  have hz : ∀ x, (∀ r ∈ l, inX r x = false) → sumR (fun y => ind (decide (n ≤ cXY l x y))) A B = 0 := fun x hx => sumR_zero fun y _ _ => by
    rw [cXY_none hx]; simp [ind]; omega
  unfold meas
  rw [sumR_split hp.1 hp.2, sumR_zero (a := A) (b := p) fun x g1 g2 => hz x fun r hr => ?_, Int.zero_add]
  · refine sw2_eq hs (fun x hx => ?_) (fun i a b ha hb' x g1 g2 => ?_) fun x hx hxB => hz x fun r hr => ?_
    · obtain ⟨r, h1, h2⟩ := (hm x).1 hx
      have h3 := hb r h1; have h4 := (hf r h1).1
      rcases h2 with h2 | h2 <;> omega
    · rw [hh]
      refine sumR_congr fun y _ _ => ?_
      rw [← cY_filter]
      have e : stripOf l a b = l.filter fun r => inX r x := by
        unfold stripOf
        refine List.filter_congr fun r hr => ?_
        have hgap : ∀ z ∈ p :: X, z ≤ a ∨ b ≤ z := fun z hz => by
          obtain ⟨j, hj⟩ := List.getElem?_of_mem hz
          have hij : ∀ {i j : Nat} {u v : Int}, (p :: X)[i]? = some u → (p :: X)[j]? = some v → i ≤ j → u ≤ v := fun {i j u v} hu hv hle => by
            obtain ⟨h5, rfl⟩ := List.getElem?_eq_some_iff.1 hu
            obtain ⟨h6, rfl⟩ := List.getElem?_eq_some_iff.1 hv
            rcases Nat.eq_or_lt_of_le hle with rfl | hlt
            · exact Int.le_refl _
            · exact Int.le_of_lt (List.pairwise_iff_getElem.1 hs i j h5 h6 hlt)
          rcases Nat.lt_or_ge i j with c | c
          · exact .inr (hij hb' hj c)
          · exact .inl (hij hj ha c)
        have g3 := hgap r.1 ((hm _).2 ⟨r, hr, .inl rfl⟩)
        have g4 := hgap r.2.2.1 ((hm _).2 ⟨r, hr, .inr rfl⟩)
        unfold inX
        by_cases c1 : r.1 ≤ a
        · by_cases c2 : b ≤ r.2.2.1
          · simp [c1, c2, show r.1 ≤ x by omega, show x < r.2.2.1 by omega]
          · simp [c1, c2, show ¬ x < r.2.2.1 by omega]
        · simp [c1, show ¬ r.1 ≤ x by omega]
      rw [e]
    · have h1 := hx r.2.2.1 ((hm _).2 ⟨r, hr, .inr rfl⟩)
      simp [inX]; omega
  · have h1 : p ≤ r.1 := by
      rcases List.mem_cons.1 ((hm r.1).2 ⟨r, hr, .inl rfl⟩) with h | h
      · omega
      · have := hle _ h; omega
    simp [inX]; omega
theorem meas_empty {n A B : Int} (hn : 1 ≤ n) : meas n [] A B = 0 := by
  unfold meas
  refine sumR_zero fun x _ _ => sumR_zero fun y _ _ => ?_
  have h0 : ¬ n ≤ cXY [] x y := by simp only [cXY]; omega
  rw [decide_eq_false h0]; rfl
theorem meas_congr {n n' A B : Int} {l l' : List Rc} (h : ∀ x y, decide (n ≤ cXY l x y) = decide (n' ≤ cXY l' x y)) : meas n l A B = meas n' l' A B := by
  unfold meas
  refine sumR_congr fun x _ _ => sumR_congr fun y _ _ => ?_
  rw [h]
/-- A rectangle's measure. -/
def ar (r : Rc) : Int := if r.2.2.1 ≤ r.1 ∨ r.2.2.2 ≤ r.2.1 then 0 else (r.2.2.1 - r.1) * (r.2.2.2 - r.2.1)
theorem ar_meas {A B : Int} {r : Rc} (h1 : A ≤ r.1) (h2 : r.2.2.1 ≤ B) (h3 : A ≤ r.2.1) (h4 : r.2.2.2 ≤ B) : sumR (fun x => sumR (fun y => ind (inX r x && inY r y)) A B) A B = ar r := by
  unfold ar
  by_cases hc : r.2.2.1 ≤ r.1 ∨ r.2.2.2 ≤ r.2.1
  · rw [if_pos hc]
    refine sumR_zero fun x _ _ => sumR_zero fun y _ _ => ?_
    have : (inX r x && inY r y) = false := by
      simp only [inX, inY]
      rw [Bool.eq_false_iff]; simp; intros; omega
    rw [this]; rfl
  · rw [if_neg hc]
    have e1 : ∀ x, sumR (fun y => ind (inX r x && inY r y)) A B = ind (inX r x) * (r.2.2.2 - r.2.1) := fun x => by
      have := sumR_ind (A := A) (a := r.2.1) (b := r.2.2.2) (B := B) (c := ind (inX r x)) h3 (by omega) h4
      rw [Int.mul_comm (r.2.2.2 - r.2.1)] at this
      rw [← this]
      refine sumR_congr fun y _ _ => ?_
      cases inX r x <;> simp [ind, inY]
    rw [sumR_congr fun x _ _ => e1 x]
    exact sumR_ind h1 (by omega) h2
/-! ### what Often computes -/
theorem toNat_nat (n : Nat) : ((n : Nat) : Int).toNat = n := Int.toNat_natCast n
theorem wsucc {n m : Nat} (h : n < m) (hm : m ≤ 1000000) : wrap64 ((n : Int) + 1) = ((n + 1 : Nat) : Int) := by rw [wrap_id (by omega) (by omega)]; omega
theorem wpred {n m : Nat} (h0 : 0 < n) (h : n < m) (hm : m ≤ 1000000) : wrap64 ((n : Int) - 1) = ((n - 1 : Nat) : Int) := by rw [wrap_id (by omega) (by omega)]; omega
theorem wrap_zero : wrap64 0 = 0 := wrap_id (by omega) (by omega)
theorem capA : (1000000 : Int) ≤ cap17592186044416 := by unfold cap17592186044416; omega
theorem capB : (1000000 : Int) ≤ cap8796093022208 := by unfold cap8796093022208; omega
theorem capC : (1000000 : Int) ≤ cap4398046511104 := by unfold cap4398046511104; omega
theorem caple {C : Int} (h : (1000000 : Int) ≤ C) {n : Nat} (hn : n ≤ 1000000) : decide (((n : Nat) : Int) ≤ C) = true := decide_eq_true (by omega)
theorem edg_len : ∀ (l : List Rc), (edg l).length = 2 * l.length
  | [] => rfl
  | r :: l => by simp only [edg, List.length_cons, edg_len l]; omega
theorem edg_by : ∀ {l : List Rc} {e : Ed}, e ∈ edg l → e.2 = 1 ∨ e.2 = -1
  | r :: l, e, h => by
    simp only [edg, List.mem_cons] at h
    rcases h with rfl | rfl | h
    · exact .inl rfl
    · exact .inr rfl
    · exact edg_by h
theorem hLoop1 (n : Int) (E : List Ed) (hE : E.length ≤ 500000) (h1 : ∀ e ∈ E, e.2 = 1 ∨ e.2 = -1) : ∀ (d m k : Nat) (dep s p : Int), m + d = E.length → d + 1 ≤ k → -(m : Int) ≤ dep ∧ dep ≤ (m : Int) → (m = 0 → dep < n) → (∀ h : m < E.length, 0 < m → (E[m - 1]'(by omega)).1 = p) →
    cover_heights.l1 n E k (m : Int) dep (wrap64 s) = some (wrap64 (s + sw n (E.drop m) dep p)) := by
  intro d
  induction d with
  | zero =>
    intro m k dep s p hd hk _ _ _
    obtain ⟨k, rfl⟩ : ∃ k', k = k' + 1 := ⟨k - 1, by omega⟩
    rw [cover_heights.l1, if_neg (by simp; omega), List.drop_of_length_le (by omega)]
    simp only [sw, Int.add_zero]
  | succ d ih =>
    intro m k dep s p hd hk hdep h0 hp
    obtain ⟨k, rfl⟩ : ∃ k', k = k' + 1 := ⟨k - 1, by omega⟩
    have hm : m < E.length := by omega
    have hby := h1 (E[m]'hm) (List.getElem_mem hm)
    have hw : wrap64 (dep + (E[m]'hm).2) = dep + (E[m]'hm).2 := wrap_id (by omega) (by omega)
    have hN := fun s' => ih (m + 1) k (dep + (E[m]'hm).2) s' (E[m]'hm).1 (by omega) (by omega) (by omega) (by omega) (fun _ _ => by simp)
    rw [cover_heights.l1, if_pos (by simp; omega), if_pos (by simp), toNat_nat, List.getElem?_eq_getElem hm, Option.bind_some, wsucc hm (by omega), hw, List.drop_eq_getElem_cons hm]
    simp only [sw]
    by_cases hn : n ≤ dep
    · have hm0 : 0 < m := by
        rcases Nat.eq_zero_or_pos m with h | h
        · have := h0 h; omega
        · exact h
      have hm1 : m - 1 < E.length := by omega
      rw [if_pos (by simpa using hn), wpred hm0 hm (by omega), if_pos (by simp), if_pos (by simp; omega), toNat_nat, List.getElem?_eq_getElem hm1, Option.bind_some, hp hm hm0, wrap_add_l, wrap_add_r, hN, if_pos hn, Int.add_assoc]
    · rw [if_neg (by simpa using hn), hN, if_neg hn, Int.zero_add]
theorem hLoop0 (K : Nat) (n : Int) (l : List Rc) (hl : l.length ≤ 200000) : ∀ (d m k : Nat) (acc : List Ed), m + d = l.length → d + 1 ≤ k → acc.length = 2 * m →
    cover_heights.l0 K n l k (m : Int) acc = (Hv.xsf (acc ++ edg (l.drop m))).bind fun b0 => cover_heights.l1 n b0 K 0 0 0 := by
  intro d
  induction d with
  | zero =>
    intro m k acc hd hk ha
    obtain ⟨k, rfl⟩ : ∃ k', k = k' + 1 := ⟨k - 1, by omega⟩
    rw [cover_heights.l0, if_neg (by simp; omega), List.drop_of_length_le (by omega)]
    simp only [edg, List.append_nil]
  | succ d ih =>
    intro m k acc hd hk ha
    obtain ⟨k, rfl⟩ : ∃ k', k = k' + 1 := ⟨k - 1, by omega⟩
    have hm : m < l.length := by omega
    rw [cover_heights.l0, if_pos (by simp; omega), if_pos (by simp), toNat_nat, List.getElem?_eq_getElem hm, Option.bind_some, if_pos (caple capB (by omega)), wsucc hm (by omega), ih (m + 1) k _ (by omega) (by omega) (by simp; omega), List.drop_eq_getElem_cons hm]
    simp only [edg, List.append_assoc, List.cons_append, List.nil_append]
theorem heightsF {K : Nat} {n A B : Int} {l : List Rc} (hK : 2 * l.length + 10 ≤ K) (hl : l.length ≤ 200000) (hn : 1 ≤ n) (hf : ∀ r ∈ l, full r) (hb : ∀ r ∈ l, A ≤ r.2.1 ∧ r.2.2.2 ≤ B) (hA : A ≤ B) :
    cover_heights.f K n l = some (wrap64 (sumR (fun y => ind (decide (n ≤ cY l y))) A B)) := by
  have h1 := hLoop0 K n l hl l.length 0 K [] (by omega) (by omega) rfl
  rw [cover_heights.f, show (0 : Int) = ((0 : Nat) : Int) from rfl]
  rw [h1, List.nil_append, List.drop_zero]
  have hlen := Hv.sortE_len (edg l)
  rw [edg_len] at hlen
  rw [Hv.xsf, if_pos (by rw [edg_len]; omega), Option.bind_some]
  have h2 := hLoop1 n (Hv.sortE (edg l)) (by omega) (fun e he => edg_by ((Hv.sortE_perm _).mem_iff.1 he)) (Hv.sortE (edg l)).length 0 K 0 0 A (by omega) (by omega) (by omega) (by omega) (fun _ h => absurd h (by omega))
  rw [List.drop_zero, Int.zero_add, sw_strip hn hf hb hA (Hv.sortE_perm _) (Hv.sortE_sorted _), wrap_zero] at h2
  exact h2
/-! columns -/
def colsOf : List Rc → List Int
  | [] => []
  | r :: l => r.1 :: r.2.2.1 :: colsOf l
theorem colsOf_mem : ∀ {l : List Rc} {x : Int}, x ∈ colsOf l ↔ ∃ r ∈ l, x = r.1 ∨ x = r.2.2.1
  | [], x => by simp [colsOf]
  | r :: l, x => by
    simp only [colsOf, List.mem_cons, colsOf_mem (l := l)]
    constructor
    · rintro (h | h | ⟨q, h1, h2⟩)
      · exact ⟨r, .inl rfl, .inl h⟩
      · exact ⟨r, .inl rfl, .inr h⟩
      · exact ⟨q, .inr h1, h2⟩
    · rintro ⟨q, rfl | h1, h2⟩
      · rcases h2 with h | h
        · exact .inl h
        · exact .inr (.inl h)
      · exact .inr (.inr ⟨q, h1, h2⟩)
theorem colsOf_len : ∀ (l : List Rc), (colsOf l).length = 2 * l.length
  | [] => rfl
  | r :: l => by simp only [colsOf, List.length_cons, colsOf_len l]; omega
theorem compact_mem (zs : List Int) (x : Int) : x ∈ Lib.compact zs ↔ x ∈ zs := by
  unfold Lib.compact Lib.compactUpTo
  simp only [List.mem_map, List.mem_filter, List.mem_range]
  constructor
  · rintro ⟨j, ⟨h1, _⟩, rfl⟩
    rw [getElem!_pos _ _ (by simpa using h1)]
    simp
  · intro h
    have key : ∀ m, ∀ h : m < zs.length, zs[m]'h = x → ∃ j, (j < zs.length ∧ Lib.keeps zs.toArray j = true) ∧ zs.toArray[j]! = x := by
      intro m
      induction m with
      | zero => intro h hx; exact ⟨0, ⟨h, by simp [Lib.keeps]⟩, by rw [getElem!_pos _ _ (by simpa using h)]; simpa using hx⟩
      | succ m ih =>
        intro h hx
        by_cases c : zs[m]'(by omega) = x
        · exact ih (by omega) c
        · refine ⟨m + 1, ⟨h, ?_⟩, by rw [getElem!_pos _ _ (by simpa using h)]; simpa using hx⟩
          apply Lib.keeps_pos
          rw [getElem!_pos _ _ (by simpa using h), getElem!_pos _ _ (by simp; omega)]
          simpa [hx] using fun e => c e.symm
    obtain ⟨m, hm, hx⟩ := List.getElem_of_mem h
    exact key m hm hx
theorem compact_sorted {zs : List Int} (hs : zs.Pairwise (· ≤ ·)) : (Lib.compact zs).Pairwise (· < ·) := by
  unfold Lib.compact Lib.compactUpTo
  rw [List.pairwise_map]
  have h1 : ((List.range zs.length).filter (Lib.keeps zs.toArray)).Pairwise (· < ·) := List.Pairwise.filter _ List.pairwise_lt_range
  refine List.Pairwise.imp_of_mem (fun {i j} hi hj hij => ?_) h1
  simp only [List.mem_filter, List.mem_range] at hi hj
  have hj1 : j - 1 < zs.length := by omega
  have hne : zs[j]'hj.1 ≠ zs[j - 1]'hj1 := by
    have := hj.2
    unfold Lib.keeps at this
    rw [getElem!_pos zs.toArray j (by simpa using hj.1), getElem!_pos zs.toArray (j - 1) (by simpa using hj1)] at this
    have h2 := of_decide_eq_true this
    rcases h2 with h2 | h2
    · omega
    · simpa using h2
  rw [getElem!_pos zs.toArray i (by simpa using hi.1), getElem!_pos zs.toArray j (by simpa using hj.1)]
  simp only [List.getElem_toArray]
  have hle : ∀ a b (ha : a < zs.length) (hb : b < zs.length), a ≤ b → zs[a]'ha ≤ zs[b]'hb := fun a b ha hb h => by
    rcases Nat.eq_or_lt_of_le h with rfl | h
    · exact Int.le_refl _
    · exact List.pairwise_iff_getElem.1 hs a b ha hb h
  have g1 := hle i (j - 1) hi.1 hj1 (by omega)
  have g2 := hle (j - 1) j hj1 hj.1 (by omega)
  omega
theorem compact_len (zs : List Int) : (Lib.compact zs).length ≤ zs.length := by
  unfold Lib.compact Lib.compactUpTo
  rw [List.length_map]
  have := List.length_filter_le (Lib.keeps zs.toArray) (List.range zs.length)
  simpa using this
theorem cLoop (l : List Rc) (hl : l.length ≤ 200000) : ∀ (d m k : Nat) (acc : List Int), m + d = l.length → d + 1 ≤ k → acc.length = 2 * m →
    cover_columns.l0 l k (m : Int) acc = (xsti (acc ++ colsOf (l.drop m))).bind fun b0 => (Hv.xco b0).bind fun b1 => some b1 := by
  intro d
  induction d with
  | zero =>
    intro m k acc hd hk ha
    obtain ⟨k, rfl⟩ : ∃ k', k = k' + 1 := ⟨k - 1, by omega⟩
    rw [cover_columns.l0, if_neg (by simp; omega), List.drop_of_length_le (by omega)]
    simp only [colsOf, List.append_nil]
  | succ d ih =>
    intro m k acc hd hk ha
    obtain ⟨k, rfl⟩ : ∃ k', k = k' + 1 := ⟨k - 1, by omega⟩
    have hm : m < l.length := by omega
    rw [cover_columns.l0, if_pos (by simp; omega), if_pos (by simp), toNat_nat, List.getElem?_eq_getElem hm, Option.bind_some, if_pos (caple capA (by omega)), wsucc hm (by omega), ih (m + 1) k _ (by omega) (by omega) (by simp; omega), List.drop_eq_getElem_cons hm]
    simp only [colsOf, List.append_assoc, List.cons_append, List.nil_append]
theorem columnsF {K : Nat} {l : List Rc} (hK : l.length + 10 ≤ K) (hl : l.length ≤ 200000) : ∃ X, cover_columns.f K l = some X ∧ X.Pairwise (· < ·) ∧ X.length ≤ 2 * l.length ∧ ∀ x, x ∈ X ↔ ∃ r ∈ l, x = r.1 ∨ x = r.2.2.1 := by
  have h1 := cLoop l hl l.length 0 K [] (by omega) (by omega) rfl
  have hlen := List.length_mergeSort (le := fun x y : Int => decide (x ≤ y)) (colsOf l)
  rw [colsOf_len] at hlen
  rw [List.nil_append, List.drop_zero, xsti, if_pos (by rw [colsOf_len]; omega), Option.bind_some, Hv.xco, if_pos (by omega), Option.bind_some] at h1
  refine ⟨_, h1, compact_sorted ?_, Nat.le_trans (compact_len _) (by omega), fun x => ?_⟩
  · have := List.pairwise_mergeSort (le := fun x y : Int => decide (x ≤ y)) (fun a b c h1 h2 => by simp at *; omega) (fun a b => by simp; omega) (colsOf l)
    exact this.imp fun h => by simpa using h
  · rw [compact_mem, List.mem_mergeSort, colsOf_mem]
/-! a strip -/
theorem oLoop1 (K : Nat) (j0 : Int → Int → Option Int) (n : Int) (l : List Rc) (X : List Int) (i : Nat) (s : Int) (hl : l.length ≤ 200000) (hX : X.length ≤ 500000) (hi0 : 0 < i) (hi : i < X.length) : ∀ (d m k : Nat) (acc : List Rc), m + d = l.length → d + 1 ≤ k → acc.length ≤ m →
    cover_Often.l1 K j0 n l X (i : Int) s k (m : Int) acc = (cover_heights.f K (mxi n 1) (acc ++ stripOf (l.drop m) (X[i - 1]'(by omega)) (X[i]'hi))).bind fun b2 => j0 ((i + 1 : Nat) : Int) (wrap64 (s + (X[i]'hi - X[i - 1]'(by omega)) * b2)) := by
  have hi1 : i - 1 < X.length := by omega
  have hw := wpred hi0 hi (by omega)
  intro d
  induction d with
  | zero =>
    intro m k acc hd hk ha
    obtain ⟨k, rfl⟩ : ∃ k', k = k' + 1 := ⟨k - 1, by omega⟩
    rw [cover_Often.l1, if_neg (by simp; omega), if_pos (by simp), toNat_nat, List.getElem?_eq_getElem hi, Option.bind_some, hw, if_pos (by simp), if_pos (by simp; omega), toNat_nat, List.getElem?_eq_getElem hi1, Option.bind_some, List.drop_of_length_le (by omega), wsucc hi (by omega)]
    simp only [stripOf, List.filter_nil, List.append_nil]
    congr 1
    funext b2
    rw [wrap_add_r, ← wrap_add_r s (_ * b2), wrap_mul_l, wrap_add_r]
  | succ d ih =>
    intro m k acc hd hk ha
    obtain ⟨k, rfl⟩ : ∃ k', k = k' + 1 := ⟨k - 1, by omega⟩
    have hm : m < l.length := by omega
    have hN := fun acc' h => ih (m + 1) k acc' (by omega) (by omega) h
    rw [cover_Often.l1, if_pos (by simp; omega), if_pos (by simp), toNat_nat, List.getElem?_eq_getElem hm, Option.bind_some, hw, if_pos (by simp), if_pos (by simp; omega), toNat_nat, List.getElem?_eq_getElem hi1, Option.bind_some, wsucc hm (by omega), List.drop_eq_getElem_cons hm]
    simp only [stripOf]
    by_cases c1 : (l[m]'hm).1 ≤ X[i - 1]'hi1
    · rw [if_pos (by simpa using c1), if_pos (by simp), toNat_nat, List.getElem?_eq_getElem hi, Option.bind_some]
      by_cases c2 : X[i]'hi ≤ (l[m]'hm).2.2.1
      · rw [if_pos (by simpa using c2), if_pos (caple capC (by omega)), hN _ (by simp; omega), List.filter_cons_of_pos (by simp [c1, c2]), List.append_assoc]
        rfl
      · rw [if_neg (by simpa using c2), hN _ (by omega), List.filter_cons_of_neg (by simp [c2])]
        rfl
    · rw [if_neg (by simpa using c1), hN _ (by omega), List.filter_cons_of_neg (by simp [c1])]
      rfl
theorem oLoop0 {K : Nat} {n A B : Int} {l : List Rc} {X : List Int} (hK : 2 * l.length + 10 ≤ K) (hl : l.length ≤ 200000) (hX : X.length ≤ 500000) (hf : ∀ r ∈ l, full r) (hb : ∀ r ∈ l, A ≤ r.2.1 ∧ r.2.2.2 ≤ B) (hA : A ≤ B) : ∀ (d i k : Nat) (s : Int), i + 1 + d = X.length → d + 1 ≤ k → ∀ hi : i < X.length,
    cover_Often.l0 K n l X k ((i + 1 : Nat) : Int) (wrap64 s) = some (wrap64 (s + sw2 (fun a b => sumR (fun y => ind (decide (mxi n 1 ≤ cY (stripOf l a b) y))) A B) (X[i]'hi) (X.drop (i + 1)))) := by
  intro d
  induction d with
  | zero =>
    intro i k s hd hk hi
    obtain ⟨k, rfl⟩ : ∃ k', k = k' + 1 := ⟨k - 1, by omega⟩
    rw [cover_Often.l0, if_neg (by simp; omega), List.drop_of_length_le (by omega)]
    simp only [sw2, Int.add_zero]
  | succ d ih =>
    intro i k s hd hk hi
    obtain ⟨k, rfl⟩ : ∃ k', k = k' + 1 := ⟨k - 1, by omega⟩
    have hm : i + 1 < X.length := by omega
    have hsub : ∀ r ∈ stripOf l (X[i]'hi) (X[i + 1]'hm), r ∈ l := fun r hr => (List.mem_filter.1 hr).1
    have hsl : (stripOf l (X[i]'hi) (X[i + 1]'hm)).length ≤ l.length := List.length_filter_le _ _
    have h1 := oLoop1 K (fun y0 y1 => cover_Often.l0 K n l X k y0 y1) n l X (i + 1) (wrap64 s) hl hX (by omega) hm l.length 0 K [] (by omega) (by omega) (by simp)
    simp only [Nat.add_sub_cancel] at h1
    rw [cover_Often.l0, if_pos (by simp; omega)]
    refine Eq.trans h1 ?_
    rw [List.nil_append, List.drop_zero, heightsF (A := A) (B := B) (by omega) (by omega) (by rw [mxi_eq]; omega) (fun r hr => hf r (hsub r hr)) (fun r hr => hb r (hsub r hr)) hA, Option.bind_some, ← wrap_add_r, wrap_mul_r, wrap_add_r, wrap_add_l, ih (i + 1) k _ (by omega) (by omega) hm]
    rw [List.drop_eq_getElem_cons hm]
    simp only [sw2, Int.add_assoc]
theorem emptyR_false {r : Rc} : Hv.emptyR r = false ↔ full r := by
  unfold Hv.emptyR full
  split
  · simp; omega
  · simp; omega
theorem cXY_filter : ∀ (l : List Rc) (x y : Int), cXY (l.filter fun r => !Hv.emptyR r) x y = cXY l x y
  | [], x, y => rfl
  | r :: l, x, y => by
    by_cases h : Hv.emptyR r = true
    · rw [List.filter_cons_of_neg (by simp [h]), cXY_filter l x y]
      simp only [cXY]
      have : (inX r x && inY r y) = false := by
        have h2 : ¬ full r := fun g => by rw [emptyR_false.2 g] at h; cases h
        unfold full at h2
        rw [Bool.eq_false_iff]; simp [inX, inY]; intros; omega
      rw [this]; simp [ind]
    · rw [List.filter_cons_of_pos (by simp [h])]
      simp only [cXY, cXY_filter l x y]
theorem oftenAux {K : Nat} {n A B : Int} {l : List Rc} (hK : 3 * l.length + 10 ≤ K) (hl : l.length ≤ 200000) (hf : ∀ r ∈ l, full r) (hb : ∀ r ∈ l, A ≤ r.1 ∧ r.2.2.1 ≤ B ∧ A ≤ r.2.1 ∧ r.2.2.2 ≤ B) (hA : A ≤ B) : ((cover_columns.f K l).bind fun b2 => cover_Often.l0 K n l b2 K 1 0) = some (wrap64 (meas (mxi n 1) l A B)) := by
  obtain ⟨X, h1, h2, h3, h4⟩ := columnsF (K := K) (l := l) (by omega) (by omega)
  have hb1 : ∀ r ∈ l, A ≤ r.1 ∧ r.2.2.1 ≤ B := fun r hr => by have := hb r hr; omega
  have hb2 : ∀ r ∈ l, A ≤ r.2.1 ∧ r.2.2.2 ≤ B := fun r hr => by have := hb r hr; omega
  have hn1 : 1 ≤ mxi n 1 := by rw [mxi_eq]; omega
  rw [h1, Option.bind_some]
  cases X with
  | nil =>
    obtain ⟨K, rfl⟩ : ∃ k', K = k' + 1 := ⟨K - 1, by omega⟩
    have hnil : l = [] := by
      cases l with
      | nil => rfl
      | cons r l' => exact absurd ((h4 r.1).2 ⟨r, by simp, .inl rfl⟩) (by simp)
    rw [hnil, meas_empty hn1, cover_Often.l0, if_neg (by decide), wrap_zero]
  | cons p X =>
    have := oLoop0 (n := n) (A := A) (B := B) (l := l) (X := p :: X) (K := K) (by omega) (by omega) (by simp at h3 ⊢; omega) hf hb2 hA X.length 0 K 0 (by simp; omega) (by simp at h3; omega) (by simp)
    rw [Int.zero_add, wrap_zero] at this
    refine Eq.trans this ?_
    congr 2
    exact sw2_meas hn1 h2 h4 hb1 hf hA fun a b => rfl
/-- Often computes the measure. -/
theorem oftenF {K : Nat} {n A B : Int} {l : List Rc} (hK : 3 * l.length + 10 ≤ K) (hl : l.length ≤ 200000) (hb : ∀ r ∈ l, A ≤ r.1 ∧ r.2.2.1 ≤ B ∧ A ≤ r.2.1 ∧ r.2.2.2 ≤ B) (hA : A ≤ B) : cover_Often.f K n l = some (wrap64 (meas (max n 1) l A B)) := by
  have hll : (l.filter fun r => !Hv.emptyR r).length ≤ l.length := List.length_filter_le _ _
  rw [cover_Often.f, xclo, if_pos (by omega), Option.bind_some, Hv.xdf, Option.bind_some]
  have h := oftenAux (K := K) (n := n) (A := A) (B := B) (l := l.filter fun r => !Hv.emptyR r) (Nat.le_trans (Nat.add_le_add_right (Nat.mul_le_mul_left 3 hll) 10) hK) (Nat.le_trans hll hl) (fun r hr => emptyR_false.1 (by simpa using (List.mem_filter.1 hr).2)) (fun r hr => hb r (List.mem_filter.1 hr).1) hA
  have e : meas (mxi n 1) (l.filter fun r => !Hv.emptyR r) A B = meas (max n 1) l A B := meas_congr fun x y => by rw [cXY_filter, mxi_eq]
  rw [e] at h
  exact h
theorem areaF {K : Nat} {A B : Int} {l : List Rc} (hK : 3 * l.length + 10 ≤ K) (hl : l.length ≤ 200000) (hb : ∀ r ∈ l, A ≤ r.1 ∧ r.2.2.1 ≤ B ∧ A ≤ r.2.1 ∧ r.2.2.2 ≤ B) (hA : A ≤ B) : cover_Area.f K l = some (wrap64 (meas 1 l A B)) := by
  rw [cover_Area.f, oftenF hK hl hb hA, Option.bind_some]; rfl
theorem alive {K : Nat} (hK : 100 ≤ K) : gatherumlaw49_alive.f K = some true := by
  have hb : ∀ r ∈ ((0, 0, 4, 4) :: [(2, 2, 6, 6)] : List Rc), (0 : Int) ≤ r.1 ∧ r.2.2.1 ≤ 6 ∧ 0 ≤ r.2.1 ∧ r.2.2.2 ≤ 6 := by decide
  have m1 : meas 1 ((0, 0, 4, 4) :: [(2, 2, 6, 6)]) 0 6 = 28 := by decide +kernel
  have m2 : meas (max 2 1) ((0, 0, 4, 4) :: [(2, 2, 6, 6)]) 0 6 = 4 := by decide +kernel
  have w1 : wrap64 28 = 28 := wrap_id (by omega) (by omega)
  have w2 : wrap64 4 = 4 := wrap_id (by omega) (by omega)
  rw [gatherumlaw49_alive.f, areaF (by simpa using by omega) (by simp) hb (by omega), Option.bind_some, oftenF (by simpa using by omega) (by simp) hb (by omega), m1, m2, w1, w2]
  rfl
theorem w3 (x y z : Int) : wrap64 (x + y - z) = wrap64 (wrap64 (wrap64 x + wrap64 y) - wrap64 z) := by
  rw [wrap_sub_l, wrap_sub_r, ← wrap_sub_l (wrap64 x + wrap64 y), wrap_add_l, wrap_add_r, wrap_sub_l]
/-- What two rectangles share. -/
def mtR (a b : Rc) : Rc := mt a.1 a.2.1 a.2.2.1 a.2.2.2 b.1 b.2.1 b.2.2.1 b.2.2.2
def pin (r : Rc) (x y : Int) : Bool := inX r x && inY r y
theorem mtR_in (a b : Rc) (x y : Int) : pin (mtR a b) x y = (pin a x y && pin b x y) := by
  unfold pin mtR mt
  by_cases h : emp (max a.1 b.1) (max a.2.1 b.2.1) (min a.2.2.1 b.2.2.1) (min a.2.2.2 b.2.2.2)
  · rw [if_pos h]
    unfold emp at h
    have e1 : (inX (0, 0, 0, 0) x && inY (0, 0, 0, 0) y) = false := by
      rw [Bool.eq_false_iff]; simp [inX, inY] <;> intros <;> omega
    rw [e1]
    symm
    rw [Bool.eq_false_iff]; simp [inX, inY]; intros; omega
  · rw [if_neg h]
    rw [Bool.eq_iff_iff]
    simp [inX, inY]
    omega
theorem one_le_cons (r : Rc) (l : List Rc) (x y : Int) : decide (1 ≤ cXY (r :: l) x y) = (pin r x y || decide (1 ≤ cXY l x y)) := by
  unfold pin
  have h0 := cXY_nonneg l x y
  have e : cXY (r :: l) x y = ind (inX r x && inY r y) + cXY l x y := rfl
  cases h : (inX r x && inY r y) with
  | true =>
    rw [h] at e
    rw [Bool.true_or]
    exact decide_eq_true (by rw [e]; simp only [ind, if_true]; omega)
  | false =>
    rw [h] at e
    have e2 : cXY (r :: l) x y = cXY l x y := by rw [e]; simp [ind]
    rw [Bool.false_or, e2]
theorem one_nil (x y : Int) : decide (1 ≤ cXY [] x y) = false := rfl
theorem two_two (a b : Rc) (x y : Int) : decide (2 ≤ cXY [a, b] x y) = (pin a x y && pin b x y) := by
  have e : cXY [a, b] x y = ind (pin a x y) + (ind (pin b x y) + 0) := rfl
  cases ha : pin a x y <;> cases hb : pin b x y <;> rw [ha, hb] at e <;> (have e2 := e; simp only [ind] at e2) <;> (rw [e]; decide)
def dbl (f : Int → Int → Int) (A B : Int) : Int := sumR (fun x => sumR (fun y => f x y) A B) A B
theorem dbl_congr {f g : Int → Int → Int} {A B : Int} (h : ∀ x y, f x y = g x y) : dbl f A B = dbl g A B := by
  unfold dbl
  exact sumR_congr fun x _ _ => sumR_congr fun y _ _ => h x y
theorem dbl_add (f g : Int → Int → Int) (A B : Int) : dbl (fun x y => f x y + g x y) A B = dbl f A B + dbl g A B := by
  unfold dbl
  rw [← sumR_add]
  exact sumR_congr fun x _ _ => sumR_add _ _ _ _
theorem dbl_sub (f g : Int → Int → Int) (A B : Int) : dbl (fun x y => f x y - g x y) A B = dbl f A B - dbl g A B := by
  unfold dbl
  rw [← sumR_sub]
  exact sumR_congr fun x _ _ => sumR_sub _ _ _ _
theorem meas_dbl (n : Int) (l : List Rc) (A B : Int) : meas n l A B = dbl (fun x y => ind (decide (n ≤ cXY l x y))) A B := rfl
def bd (A B : Int) (r : Rc) : Prop := A ≤ r.1 ∧ r.2.2.1 ≤ B ∧ A ≤ r.2.1 ∧ r.2.2.2 ≤ B
theorem ar_dbl {A B : Int} {r : Rc} (h : bd A B r) : ar r = dbl (fun x y => ind (pin r x y)) A B := (ar_meas h.1 h.2.1 h.2.2.1 h.2.2.2).symm
theorem mtR_bd {A B : Int} (hA : A ≤ 0) (hB : 0 ≤ B) {a b : Rc} (ha : bd A B a) (hb : bd A B b) : bd A B (mtR a b) := by
  obtain ⟨h1, h2, h3, h4⟩ := hb
  unfold mtR mt
  by_cases c : emp (max a.1 b.1) (max a.2.1 b.2.1) (min a.2.2.1 b.2.2.1) (min a.2.2.2 b.2.2.2)
  · rw [if_pos c]; exact ⟨hA, hB, hA, hB⟩
  · rw [if_neg c]; exact ⟨Int.le_trans h1 (Int.le_max_right _ _), Int.le_trans (Int.min_le_right _ _) h2, Int.le_trans h3 (Int.le_max_right _ _), Int.le_trans (Int.min_le_right _ _) h4⟩
section
variable {A B : Int} {a b c : Rc} (hA : A ≤ 0) (hB : 0 ≤ B) (ha : bd A B a) (hb : bd A B b) (hc : bd A B c)
include hA hB ha hb
theorem j1 : meas 1 [a, b] A B = ar a + ar b - ar (mtR a b) := by
  rw [ar_dbl ha, ar_dbl hb, ar_dbl (mtR_bd hA hB ha hb), meas_dbl, ← dbl_add, ← dbl_sub]
  refine dbl_congr fun x y => ?_
  rw [one_le_cons, one_le_cons, one_nil, mtR_in]
  cases pin a x y <;> cases pin b x y <;> rfl
theorem j2 : meas 2 [a, b] A B = ar (mtR a b) := by
  rw [ar_dbl (mtR_bd hA hB ha hb), meas_dbl]
  refine dbl_congr fun x y => ?_
  rw [two_two, mtR_in]
include hc
omit hA hB ha hb in
theorem j5 : meas 1 [a, b, c] A B = meas 1 [a, b] A B + ar c - meas 1 [mtR a c, mtR b c] A B := by
  rw [ar_dbl hc, meas_dbl, meas_dbl, meas_dbl, ← dbl_add, ← dbl_sub]
  refine dbl_congr fun x y => ?_
  simp only [one_le_cons, one_nil, mtR_in]
  cases pin a x y <;> cases pin b x y <;> cases pin c x y <;> rfl
end
theorem j3 {A B : Int} {a : Rc} (ha : bd A B a) : meas 1 [a, a] A B = ar a := by
  rw [ar_dbl ha, meas_dbl]
  refine dbl_congr fun x y => ?_
  simp only [one_le_cons, one_nil]
  cases pin a x y <;> rfl
theorem j4 (a b c : Rc) (A B : Int) : meas 1 [a, b, c] A B = meas 1 [c, a, b] A B := by
  rw [meas_dbl, meas_dbl]
  refine dbl_congr fun x y => ?_
  simp only [one_le_cons, one_nil]
  cases pin a x y <;> cases pin b x y <;> cases pin c x y <;> rfl
theorem areaR (a : Rc) : gatherumlaw49_area.f a.1 a.2.1 a.2.2.1 a.2.2.2 = some (wrap64 (ar a)) := by
  rw [gatherumlaw49_area.f, q04_Empty, Option.bind_some, ar]
  by_cases h : emp a.1 a.2.1 a.2.2.1 a.2.2.2
  · rw [if_pos (decide_eq_true h), if_pos (by unfold emp at h; exact h), wrap_zero]
  · rw [if_neg (by rw [decide_eq_false h]; decide), if_neg (by unfold emp at h; exact h), wrap_mul_l, wrap_mul_r]
theorem meetR (a b : Rc) : gatherumref04_Meet.f a.1 a.2.1 a.2.2.1 a.2.2.2 b.1 b.2.1 b.2.2.1 b.2.2.2 = some (mtR a b) := q04_Meet _ _ _ _ _ _ _ _
theorem eta4 (r : Rc) : (r.1, r.2.1, r.2.2.1, r.2.2.2) = r := rfl
theorem main {K : Nat} (hK : 1000 ≤ K) {A B : Int} (hA : A ≤ 0) (hB : 0 ≤ B) (a b c : Rc) (ha : bd A B a) (hb : bd A B b) (hc : bd A B c) : gatherumlaw49_CoverJoins.f K a.1 a.2.1 a.2.2.1 a.2.2.2 b.1 b.2.1 b.2.2.1 b.2.2.2 c.1 c.2.1 c.2.2.1 c.2.2.2 = some true := by
  have hab := mtR_bd hA hB ha hb
  have hac := mtR_bd hA hB ha hc
  have hbc := mtR_bd hA hB hb hc
  have hAB : A ≤ B := Int.le_trans hA hB
  have ar2 : ∀ u v : Rc, bd A B u → bd A B v → cover_Area.f K [u, v] = some (wrap64 (meas 1 [u, v] A B)) := fun u v hu hv => areaF (by simp; omega) (by simp) (fun r hr => by
    rcases List.mem_cons.1 hr with rfl | hr
    · exact hu
    · rcases List.mem_cons.1 hr with rfl | hr
      · exact hv
      · cases hr) hAB
  have ar3 : ∀ u v x : Rc, bd A B u → bd A B v → bd A B x → cover_Area.f K [u, v, x] = some (wrap64 (meas 1 [u, v, x] A B)) := fun u v x hu hv hx => areaF (by simp; omega) (by simp) (fun r hr => by
    rcases List.mem_cons.1 hr with rfl | hr
    · exact hu
    · rcases List.mem_cons.1 hr with rfl | hr
      · exact hv
      · rcases List.mem_cons.1 hr with rfl | hr
        · exact hx
        · cases hr) hAB
  have of2 : cover_Often.f K 2 [a, b] = some (wrap64 (meas (max 2 1) [a, b] A B)) := oftenF (by simp; omega) (by simp) (fun r hr => by
    rcases List.mem_cons.1 hr with rfl | hr
    · exact ha
    · rcases List.mem_cons.1 hr with rfl | hr
      · exact hb
      · cases hr) hAB
  rw [show max (2 : Int) 1 = 2 by omega, j2 hA hB ha hb] at of2
  have e1 := ar2 a b ha hb
  have e2 := ar2 a a ha ha
  rw [j3 ha] at e2
  have e3 := ar3 a b c ha hb hc
  have e4 := ar3 c a b hc ha hb
  rw [← j4] at e4
  have e5 := ar2 (mtR a c) (mtR b c) hac hbc
  have k1 := j1 hA hB ha hb
  have k5 := j5 (a := a) (b := b) hc
  have e6 : wrap64 (meas 1 [a, b] A B) = wrap64 (wrap64 (wrap64 (ar a) + wrap64 (ar b)) - wrap64 (ar (mtR a b))) := by rw [k1, w3]
  have e7 : wrap64 (meas 1 [a, b, c] A B) = wrap64 (wrap64 (wrap64 (meas 1 [a, b] A B) + wrap64 (ar c)) - wrap64 (meas 1 [mtR a c, mtR b c] A B)) := by rw [k5, w3]
  rw [gatherumlaw49_CoverJoins.f, alive (by omega), Option.bind_some, if_neg (by decide)]
  simp only [eta4, meetR, areaR, Option.bind_some, xmk, e1, of2, e2, e3, e4, e5]
  rw [if_neg (by simpa using e6), if_neg (by simp), if_neg (by simp), if_pos (by simp)]
  simpa using e7
theorem CoverJoins (a0_0 : Int) (a0_1 : Int) (a0_2 : Int) (a0_3 : Int) (a1_0 : Int) (a1_1 : Int) (a1_2 : Int) (a1_3 : Int) (a2_0 : Int) (a2_1 : Int) (a2_2 : Int) (a2_3 : Int) (w0_0 : (Lit.int .i64 a0_0).wf = true) (w0_1 : (Lit.int .i64 a0_1).wf = true) (w0_2 : (Lit.int .i64 a0_2).wf = true) (w0_3 : (Lit.int .i64 a0_3).wf = true) (w1_0 : (Lit.int .i64 a1_0).wf = true) (w1_1 : (Lit.int .i64 a1_1).wf = true) (w1_2 : (Lit.int .i64 a1_2).wf = true) (w1_3 : (Lit.int .i64 a1_3).wf = true) (w2_0 : (Lit.int .i64 a2_0).wf = true) (w2_1 : (Lit.int .i64 a2_1).wf = true) (w2_2 : (Lit.int .i64 a2_2).wf = true) (w2_3 : (Lit.int .i64 a2_3).wf = true) : ∃ K : Nat, gatherumlaw49_CoverJoins.f K a0_0 a0_1 a0_2 a0_3 a1_0 a1_1 a1_2 a1_3 a2_0 a2_1 a2_2 a2_3 = some true := by
  refine ⟨1000, ?_⟩
  obtain ⟨K, hK⟩ : ∃ K, K = 1000 := ⟨_, rfl⟩
  rw [← hK]
  obtain ⟨A, B, hA, hB, h⟩ : ∃ A B : Int, A ≤ 0 ∧ 0 ≤ B ∧ ∀ x, R x → A ≤ x ∧ x ≤ B := ⟨-9223372036854775808, 9223372036854775807, by omega, by omega, fun x hx => hx⟩
  exact main (by omega) hA hB (a0_0, a0_1, a0_2, a0_3) (a1_0, a1_1, a1_2, a1_3) (a2_0, a2_1, a2_2, a2_3) ⟨(h _ (R_of w0_0)).1, (h _ (R_of w0_2)).2, (h _ (R_of w0_1)).1, (h _ (R_of w0_3)).2⟩ ⟨(h _ (R_of w1_0)).1, (h _ (R_of w1_2)).2, (h _ (R_of w1_1)).1, (h _ (R_of w1_3)).2⟩ ⟨(h _ (R_of w2_0)).1, (h _ (R_of w2_2)).2, (h _ (R_of w2_1)).1, (h _ (R_of w2_3)).2⟩
end Go.Proofs.Ytpicoedbkeljoaa.PureCoverJoins
