/- The plain law FaceSides, over the functions that the executor tells: no Go, no memory. -/
import Derived.Test.YthgmjhidigoneaaXFaceSides
import Derived.Test.YthgmjhidigoneaaAid
namespace Go.Proofs.Ythgmjhidigoneaa.PureFaceSides
open Go Go.RowKit Go.Proofs.Ythgmjhidigoneaa.Sy Go.Proofs.Ythgmjhidigoneaa.XFaceSides Go.Proofs.Ythgmjhidigoneaa.Aid
set_option linter.unusedVariables false
set_option linter.unusedSimpArgs false
def ok_iiiiiiiiis (x : Int × Int × Int × Int × Int × Int × Int × Int × Int × ByteArray) : Prop := (Lit.int .i64 x.1).wf = true ∧ (Lit.int .i64 x.2.1).wf = true ∧ (Lit.int .i64 x.2.2.1).wf = true ∧ (Lit.int .i64 x.2.2.2.1).wf = true ∧ (Lit.int .i64 x.2.2.2.2.1).wf = true ∧ (Lit.int .i64 x.2.2.2.2.2.1).wf = true ∧ (Lit.int .i64 x.2.2.2.2.2.2.1).wf = true ∧ (Lit.int .i64 x.2.2.2.2.2.2.2.1).wf = true ∧ (Lit.int .i64 x.2.2.2.2.2.2.2.2.1).wf = true ∧ x.2.2.2.2.2.2.2.2.2.size ≤ maxLen
set_option maxRecDepth 100000
/-! ### words of the plain laws -/
def emp (a b c d : Int) : Prop := c ≤ a ∨ d ≤ b
instance (a b c d : Int) : Decidable (emp a b c d) := by unfold emp; infer_instance
/-- A rectangle, brought by a place. -/
def bxm (t ax ay a b c d : Int) : Int × Int × Int × Int :=
  (min (wrap64 ((D t a b).1 + ax)) (wrap64 ((D t c d).1 + ax)), min (wrap64 ((D t a b).2 + ay)) (wrap64 ((D t c d).2 + ay)), max (wrap64 ((D t a b).1 + ax)) (wrap64 ((D t c d).1 + ax)), max (wrap64 ((D t a b).2 + ay)) (wrap64 ((D t c d).2 + ay)))
/-- How many plates a sheet has; how it is turned over; where may be printed; where a block may be. -/
def plt (s : Int) : Int := if s = 1 ∨ s = 2 then 2 else if s = 3 ∨ s = 4 then 1 else 0
def flp (s w h : Int) : Int × Int × Int := if plt s = 0 then (0, 0, 0) else if s = 2 ∨ s = 4 then (6, 0, h) else (4, w, 0)
def are (s w h side g t : Int) : Int × Int × Int × Int := if plt s = 0 then (0, 0, 0, 0) else if s = 2 ∨ s = 4 then (side, max g t, wrap64 (w - side), wrap64 (h - max g t)) else (side, g, wrap64 (w - side), wrap64 (h - t))
def reg (s w h : Int) (a : Int × Int × Int × Int) : Int × Int × Int × Int := if s = 3 then (a.1, a.2.1, min a.2.2.1 (w / 2), a.2.2.2) else if s = 4 then (a.1, a.2.1, a.2.2.1, min a.2.2.2 (h / 2)) else a
theorem plt_zero (s : Int) : plt s = 0 ↔ s < 1 ∨ s > 4 := by
  unfold plt
  by_cases h1 : s = 1 ∨ s = 2
  · rw [if_pos h1]; omega
  · rw [if_neg h1]; by_cases h2 : s = 3 ∨ s = 4
    · rw [if_pos h2]; omega
    · rw [if_neg h2]; omega
theorem min_R {a b : Int} (ha : R a) (hb : R b) : R (min a b) := by unfold R at *; omega
theorem max_R {a b : Int} (ha : R a) (hb : R b) : R (max a b) := by unfold R at *; omega
theorem are_R {s w h side g t : Int} (h1 : R side) (h2 : R g) (h3 : R t) : R (are s w h side g t).1 ∧ R (are s w h side g t).2.1 ∧ R (are s w h side g t).2.2.1 ∧ R (are s w h side g t).2.2.2 := by
  unfold are
  have h0 : R 0 := by unfold R; omega
  split
  · exact ⟨h0, h0, h0, h0⟩
  · split
    · exact ⟨h1, max_R h2 h3, R_wrap _, R_wrap _⟩
    · exact ⟨h1, h2, R_wrap _, R_wrap _⟩
theorem mni_eq (a b : Int) : mni a b = min a b := by unfold mni; split <;> omega
theorem mxi_eq (a b : Int) : mxi a b = max a b := by unfold mxi; split <;> omega
/-- A panel's size. -/
def psz (a b c x y z : Int) : Int × Int := (wrap64 (wrap64 (c + a) + b), wrap64 (wrap64 (z + x) + y))
def mt (a b c d a' b' c' d' : Int) : Int × Int × Int × Int := if emp (max a a') (max b b') (min c c') (min d d') then (0, 0, 0, 0) else (max a a', max b b', min c c', min d d')
def wit (a b c d a' b' c' d' : Int) : Prop := emp a b c d ∨ (a' ≤ a ∧ c ≤ c' ∧ b' ≤ b ∧ d ≤ d')
instance (a b c d a' b' c' d' : Int) : Decidable (wit a b c d a' b' c' d') := by unfold wit; infer_instance
/-- What a job's numbers may be. -/
def B15 (j0 : ByteArray) (j1 j2 j3 j4 j5 j6 j7 j8 j9 j10 j11 j12 j13 : Int) (j14 j15 : Ov) (j16 j17 j18 j19 j20 j21 j22 j23 j24 j25 j26 j27 j28 j29 j30 j31 j32 : Int) : Prop := (1 ≤ j1 ∧ j1 ≤ 100000) ∧ (-5000000 ≤ j2 ∧ j2 ≤ 5000000) ∧ (-5000000 ≤ j3 ∧ j3 ≤ 5000000) ∧ (1 ≤ j4 ∧ j4 ≤ 5000000) ∧ (1 ≤ j5 ∧ j5 ≤ 5000000) ∧ (0 ≤ j6 ∧ j6 ≤ 5000000) ∧ (0 ≤ j7 ∧ j7 ≤ 5000000) ∧ (0 ≤ j8 ∧ j8 ≤ 5000000) ∧ (0 ≤ j9 ∧ j9 ≤ 5000000) ∧ (0 ≤ j10 ∧ j10 ≤ 5000000) ∧ (1 ≤ j11 ∧ j11 ≤ 4) ∧ (1 ≤ j16 ∧ j16 ≤ 4) ∧ (1 ≤ j17 ∧ j17 ≤ 5000000) ∧ (1 ≤ j18 ∧ j18 ≤ 5000000) ∧ (0 ≤ j19 ∧ j19 ≤ 5000000) ∧ (0 ≤ j20 ∧ j20 ≤ 5000000) ∧ (0 ≤ j21 ∧ j21 ≤ 5000000) ∧ (0 ≤ j22 ∧ j22 ≤ 100000) ∧ (0 ≤ j23 ∧ j23 ≤ 1000) ∧ (1 ≤ j24 ∧ j24 ≤ 1000) ∧ (0 ≤ j25 ∧ j25 ≤ 3) ∧ (0 ≤ j26 ∧ j26 ≤ 5000000) ∧ (0 ≤ j27 ∧ j27 ≤ 5000000) ∧ (0 ≤ j28 ∧ j28 ≤ 5000000) ∧ (0 ≤ j29 ∧ j29 ≤ 5000000) ∧ (0 ≤ j30 ∧ j30 ≤ 5000000) ∧ (1 ≤ j31 ∧ j31 ≤ 1000) ∧ (0 ≤ j32 ∧ j32 ≤ 5000000)
theorem pdec {p : Prop} [Decidable p] (h : p) : ¬ ((!decide p) = true) := by simp [h]
theorem ndec {p : Prop} [Decidable p] (h : ¬ p) : (!decide p) = true := by simp [h]
theorem q03_Do (t x y : Int) (hx : R x) (hy : R y) : gatherumref03_Do.f (M t).1 (M t).2.1 (M t).2.2.1 (M t).2.2.2 x y = some (D t x y) := by
  have h1 : wrap64 x = x := R_id hx
  have h2 : wrap64 y = y := R_id hy
  rcases eight t with h | h | h | h | h | h | h | h <;>
    simp [gatherumref03_Do.f, M, D, h, wl0, h1, h2, wrap_wrap, wnn hx, wnn hy]
theorem tm4 (x : Int) (h : 0 ≤ x) : Int.tmod x 4 = x % 4 := Int.tmod_eq_emod_of_nonneg h
theorem q03_Of (K : Nat) (t : Int) : gatherumref03_Of.f (K + 50) t = some (M t) := by
  rcases eight t with h | h | h | h | h | h | h | h <;>
    simp [gatherumref03_Of.f, and7, h, gatherumref03_Of.l0, gatherumref03_Of.l1, M, wl0, wl1, wl2, wl3, wm1, tm4]
theorem q04_Do (K : Nat) (t ax ay x y : Int) (hx : R x) (hy : R y) : gatherumref04_Do.f (K + 50) t ax ay x y = some (wrap64 ((D t x y).1 + ax), wrap64 ((D t x y).2 + ay)) := by
  simp only [gatherumref04_Do.f, q03_Of K t, Option.bind_some, q03_Do t x y hx hy]
theorem q03Then (a b : Int) : gatherumref03_Then.f (M a).1 (M a).2.1 (M a).2.2.1 (M a).2.2.2 (M b).1 (M b).2.1 (M b).2.2.1 (M b).2.2.2 = some (M (th a b)) := by
  obtain ⟨x, hx⟩ := fin8 a
  obtain ⟨y, hy⟩ := fin8 b
  rw [M_red a, M_red b, th_red a b, hx, hy]
  have key : ∀ x y : Fin 8, gatherumref03_Then.f (M x.1).1 (M x.1).2.1 (M x.1).2.2.1 (M x.1).2.2.2 (M y.1).1 (M y.1).2.1 (M y.1).2.2.1 (M y.1).2.2.2 = some (M (th x.1 y.1)) := by decide +kernel
  exact key x y
theorem q03Turn (K : Nat) (a : Int) : gatherumref03_Turn.f (K + 50) (M a).1 (M a).2.1 (M a).2.2.1 (M a).2.2.2 = some (a % 8) := by
  have e1 : wrap64 (1 + 1) = 2 := wl2
  have e2 : wrap64 (2 + 1) = 3 := wl3
  have e3 : wrap64 (3 + 1) = 4 := by decide +kernel
  have e4 : wrap64 (4 + 1) = 5 := by decide +kernel
  have e5 : wrap64 (5 + 1) = 6 := by decide +kernel
  have e6 : wrap64 (6 + 1) = 7 := by decide +kernel
  rcases eight a with h | h | h | h | h | h | h | h <;>
    simp [gatherumref03_Turn.f, gatherumref03_Turn.l0, q03_Of K, M, h, wl1, e1, e2, e3, e4, e5, e6, show wrap64 2 = 2 from wl2, show wrap64 3 = 3 from wl3, show wrap64 4 = 4 from e3, show wrap64 5 = 5 from e4, show wrap64 6 = 6 from e5, show wrap64 7 = 7 from e6]
theorem q04Then (K : Nat) (t x y t' x' y' : Int) (hx : R x) (hy : R y) : gatherumref04_Then.f (K + 50) t x y t' x' y' = some (th t t', wrap64 ((D t' x y).1 + x'), wrap64 ((D t' x y).2 + y')) := by
  have hb := th_bounds t t'
  have hm : th t t' % 8 = th t t' := by omega
  simp only [gatherumref04_Then.f, q04_Do K _ _ _ _ _ hx hy, q03_Of K, q03Then, q03Turn K, Option.bind_some, hm]
theorem qbEmpty (a b c d : Int) : box_Empty.f a b c d = some (decide (emp a b c d)) := by
  unfold box_Empty.f emp
  by_cases h : c ≤ a <;> simp [h]
theorem qbMeet (a b c d a' b' c' d' : Int) : box_Meet.f a b c d a' b' c' d' = some (mt a b c d a' b' c' d') := by
  simp only [box_Meet.f, qbEmpty, Option.bind_some, mni_eq, mxi_eq, mt]
  by_cases h : emp (max a a') (max b b') (min c c') (min d d') <;> simp [h]
theorem qTurnDo (K : Nat) (t x y : Int) (hx : R x) (hy : R y) : turn_Do.f (K + 50) t x y = some (D t x y) := by
  have h4 : t % 4 = t % 8 % 4 := by omega
  rcases eight t with h | h | h | h | h | h | h | h <;> rw [h] at h4 <;>
    simp [turn_Do.f, turn_Mirrors.f, and4, and3, h, h4, turn_Do.l0, turn_Do.l1, D, wl1, wl2, wl3, wnn hx, wnn hy]
theorem qPlaceDo (K : Nat) (t ax ay x y : Int) (hx : R x) (hy : R y) : place_Do.f (K + 50) t ax ay x y = some (wrap64 ((D t x y).1 + ax), wrap64 ((D t x y).2 + ay)) := by
  simp only [place_Do.f, qTurnDo K _ _ _ hx hy, Option.bind_some]
theorem qTurnThen (a b : Int) : turn_Then.f a b = some (th a b) := by
  unfold turn_Then.f turn_Mirrors.f th
  simp only [Option.bind_some, xor4, and3, wrap_m4, or34 _ _ (c04 _)]
  simp only [and4]
  by_cases h : b % 8 < 4 <;> simp [h]
theorem qPlaceThen (K : Nat) (t x y t' x' y' : Int) (hx : R x) (hy : R y) : place_Then.f (K + 50) t x y t' x' y' = some (th t t', wrap64 ((D t' x y).1 + x'), wrap64 ((D t' x y).2 + y')) := by
  simp only [place_Then.f, qPlaceDo K _ _ _ _ _ hx hy, qTurnThen, Option.bind_some]
theorem qPlaceBox (K : Nat) (t ax ay a b c d : Int) (ha : R a) (hb : R b) (hc : R c) (hd : R d) : place_Box.f (K + 50) t ax ay a b c d = some (bxm t ax ay a b c d) := by
  simp only [place_Box.f, qPlaceDo K _ _ _ _ _ ha hb, qPlaceDo K _ _ _ _ _ hc hd, Option.bind_some, mni_eq, mxi_eq, bxm]
abbrev It := Int × Int × Int × Int × Int × Int × Int × Int × Int × ByteArray
abbrev Pl := Int × Int × Int × Int × (List It)
theorem toNat_nat (n : Nat) : ((n : Nat) : Int).toNat = n := Int.toNat_natCast n
theorem wsucc {n m : Nat} (h : n < m) (hm : m ≤ 100000) : wrap64 ((n : Int) + 1) = ((n + 1 : Nat) : Int) := by rw [wrap_id (by omega) (by omega)]; omega
def okI (i : It) : Prop := R i.2.2.2.1 ∧ R i.2.2.2.2.1 ∧ R i.2.2.2.2.2.1 ∧ R i.2.2.2.2.2.2.1 ∧ R i.2.2.2.2.2.2.2.1 ∧ R i.2.2.2.2.2.2.2.2.1
theorem cap_ge : (100000 : Int) ≤ cap1599289640401 := by unfold cap1599289640401; omega
/-- Is an item on a rectangle? -/
def onP (c0 c1 c2 c3 : Int) (i : It) : Bool := let m := mt i.2.2.2.2.2.1 i.2.2.2.2.2.2.1 i.2.2.2.2.2.2.2.1 i.2.2.2.2.2.2.2.2.1 c0 c1 c2 c3; !decide (emp m.1 m.2.1 m.2.2.1 m.2.2.2)
theorem onLoop (c0 c1 c2 c3 : Int) (l : List It) (hl : l.length ≤ 300) : ∀ (d n k : Nat), n + d = l.length → d + 1 ≤ k → face_On.l0 l c0 c1 c2 c3 k (n : Int) ((l.take n).filter (onP c0 c1 c2 c3)) = some (l.filter (onP c0 c1 c2 c3)) := by
  intro d
  induction d with
  | zero =>
    intro n k hd hk
    obtain ⟨k, rfl⟩ : ∃ k', k = k' + 1 := ⟨k - 1, by omega⟩
    rw [face_On.l0, if_neg (by simp; omega), List.take_of_length_le (by omega)]
  | succ d ih =>
    intro n k hd hk
    obtain ⟨k, rfl⟩ : ∃ k', k = k' + 1 := ⟨k - 1, by omega⟩
    have hn : n < l.length := by omega
    have hN := ih (n + 1) k (by omega) (by omega)
    rw [← wsucc hn (by omega), List.take_succ_eq_append_getElem hn, List.filter_append] at hN
    have hlen : ((l.take n).filter (onP c0 c1 c2 c3)).length ≤ n := Nat.le_trans (List.length_filter_le _ _) (by rw [List.length_take]; omega)
    have hcap : decide (((((l.take n).filter (onP c0 c1 c2 c3)).length + 1 : Nat) : Int) ≤ cap1599289640401) = true := by
      have h1 := cap_ge
      generalize cap1599289640401 = C at *
      exact decide_eq_true (by omega)
    rw [face_On.l0, if_pos (by simp; omega), if_pos (by simp), toNat_nat, List.getElem?_eq_getElem hn, Option.bind_some, box_Apart.f, qbMeet, Option.bind_some, qbEmpty, Option.bind_some, Option.bind_some]
    by_cases g : onP c0 c1 c2 c3 (l[n]'hn) = true
    · rw [List.filter_cons_of_pos g, List.filter_nil] at hN
      rw [if_pos (by exact g), if_pos hcap]
      exact hN
    · rw [List.filter_cons_of_neg g, List.filter_nil, List.append_nil] at hN
      rw [if_neg (by exact g)]
      exact hN
theorem qOn (K : Nat) (hK : 1000 ≤ K) (c0 c1 c2 c3 : Int) (l : List It) (hl : l.length ≤ 300) : face_On.f K l c0 c1 c2 c3 = some (l.filter (onP c0 c1 c2 c3)) := by
  have := onLoop c0 c1 c2 c3 l hl l.length 0 K (by omega) (by omega)
  rw [List.take_zero, List.filter_nil] at this
  exact this
/-- What is met: the page that came last, how many pages, how many marks. -/
def stp (s : It × Int × Int) (i : It) : It × Int × Int := if i.1 = 1 then (i, wrap64 (s.2.1 + 1), s.2.2) else (s.1, s.2.1, wrap64 (s.2.2 + 1))
def zit : It := (0, 0, 0, 0, 0, 0, 0, 0, 0, (⟨#[]⟩ : ByteArray))
def tn (a b : Int × Int × Int) : Int × Int × Int := (th a.1 b.1, wrap64 ((D b.1 a.2.1 a.2.2).1 + b.2.1), wrap64 ((D b.1 a.2.1 a.2.2).2 + b.2.2))
abbrev Fc := Int × Int × Int × Int × Int × Int × Int × Int × Int × Int
def fin (c0 c1 c2 c3 : Int) (way : Int × Int × Int) (s : It × Int × Int) : Fc :=
  if s.2.1 = 1 then
    let a := tn (s.1.2.2.1, s.1.2.2.2.1, s.1.2.2.2.2.1) way
    let m := mt s.1.2.2.2.2.2.1 s.1.2.2.2.2.2.2.1 s.1.2.2.2.2.2.2.2.1 s.1.2.2.2.2.2.2.2.2.1 c0 c1 c2 c3
    let b := bxm way.1 way.2.1 way.2.2 m.1 m.2.1 m.2.2.1 m.2.2.2
    (s.1.2.1, a.1, a.2.1, a.2.2, b.1, b.2.1, b.2.2.1, b.2.2.2, s.2.1, s.2.2)
  else (0, 0, 0, 0, 0, 0, 0, 0, s.2.1, s.2.2)
def wayOf (t x y w : Int) (recto : Bool) : Int × Int × Int := if (!recto) = true then tn (t, x, y) (4, w, 0) else (t, x, y)
theorem mt_R {a b c d a' b' c' d' : Int} (h1 : R a) (h2 : R b) (h3 : R c) (h4 : R d) (h1' : R a') (h2' : R b') (h3' : R c') (h4' : R d') : R (mt a b c d a' b' c' d').1 ∧ R (mt a b c d a' b' c' d').2.1 ∧ R (mt a b c d a' b' c' d').2.2.1 ∧ R (mt a b c d a' b' c' d').2.2.2 := by
  have h0 : R 0 := by unfold R; omega
  unfold mt
  split
  · exact ⟨h0, h0, h0, h0⟩
  · unfold R at *; refine ⟨?_, ?_, ?_, ?_⟩ <;> simp only <;> omega
theorem okZ : okI zit := by unfold okI zit R; simp only; omega
theorem stp_ok {s : It × Int × Int} {i : It} (h : okI s.1) (hi : okI i) : okI (stp s i).1 := by
  unfold stp; split
  · exact hi
  · exact h
theorem ofLoop (K : Nat) (c0 c1 c2 c3 t x y w : Int) (recto : Bool) (r0 : R c0) (r1 : R c1) (r2 : R c2) (r3 : R c3) (rx : R x) (ry : R y) (l : List It) (hl : l.length ≤ 300) (hok : ∀ i ∈ l, okI i) : ∀ (d n k : Nat) (s : It × Int × Int), n + d = l.length → d + 1 ≤ k → okI s.1 →
    face_Of.l0 (K + 50) w c0 c1 c2 c3 t x y recto l k (n : Int) s.1.1 s.1.2.1 s.1.2.2.1 s.1.2.2.2.1 s.1.2.2.2.2.1 s.1.2.2.2.2.2.1 s.1.2.2.2.2.2.2.1 s.1.2.2.2.2.2.2.2.1 s.1.2.2.2.2.2.2.2.2.1 s.1.2.2.2.2.2.2.2.2.2 s.2.1 s.2.2 = some (fin c0 c1 c2 c3 (wayOf t x y w recto) ((l.drop n).foldl stp s)) := by
  intro d
  induction d with
  | zero =>
    intro n k s hd hk hs
    obtain ⟨k, rfl⟩ : ∃ k', k = k' + 1 := ⟨k - 1, by omega⟩
    obtain ⟨h1, h2, h3, h4, h5, h6⟩ := hs
    have hm := mt_R h3 h4 h5 h6 r0 r1 r2 r3
    rw [face_Of.l0, if_neg (by simp; omega), List.drop_of_length_le (by omega), List.foldl_nil]
    unfold fin
    by_cases g : s.2.1 = 1
    · rw [if_neg (by simp [g]), if_pos g]
      cases recto
      · rw [if_pos (by decide), show place_FlipX.f w = some (4, w, 0) from rfl, Option.bind_some, qPlaceThen K _ _ _ _ _ _ rx ry, Option.bind_some, qPlaceThen K _ _ _ _ _ _ h1 h2, Option.bind_some, qbMeet, Option.bind_some, qPlaceBox K _ _ _ _ _ _ _ hm.1 hm.2.1 hm.2.2.1 hm.2.2.2, Option.bind_some]
        rfl
      · rw [if_neg (by decide), qPlaceThen K _ _ _ _ _ _ h1 h2, Option.bind_some, qbMeet, Option.bind_some, qPlaceBox K _ _ _ _ _ _ _ hm.1 hm.2.1 hm.2.2.1 hm.2.2.2, Option.bind_some]
        rfl
    · rw [if_pos (by simp [g]), if_neg g]
  | succ d ih =>
    intro n k s hd hk hs
    obtain ⟨k, rfl⟩ : ∃ k', k = k' + 1 := ⟨k - 1, by omega⟩
    have hn : n < l.length := by omega
    rw [face_Of.l0, if_pos (by simp; omega), if_pos (by simp), toNat_nat, List.getElem?_eq_getElem hn, Option.bind_some, wsucc hn (by omega), List.drop_eq_getElem_cons hn, List.foldl_cons]
    have hN := ih (n + 1) k (stp s (l[n]'hn)) (by omega) (by omega) (stp_ok hs (hok _ (List.getElem_mem hn)))
    by_cases g : (l[n]'hn).1 = 1
    · rw [if_pos (by simp [g])]
      rw [← hN]
      simp only [stp, if_pos g]
    · rw [if_neg (by simp [g])]
      rw [← hN]
      simp only [stp, if_neg g]
theorem of10 (K : Nat) (w c0 c1 c2 c3 t x y : Int) (recto : Bool) (l : List It) : ∀ (k : Nat) (n a b c d e f g h i : Int) (z : ByteArray) (p m : Int), face_Of.l1 K w c0 c1 c2 c3 t x y recto l k n a b c d e f g h i z p m = face_Of.l0 K w c0 c1 c2 c3 t x y recto l k n a b c d e f g h i z p m := by
  intro k
  induction k with
  | zero => intros; rfl
  | succ k ih => intros; rw [face_Of.l1, face_Of.l0]; simp only [ih]
theorem filter_ok {p : It → Bool} {l : List It} (h : ∀ i ∈ l, okI i) : ∀ i ∈ l.filter p, okI i := fun i hi => h i (List.mem_filter.1 hi).1
theorem filter_len {p : It → Bool} {l : List It} (h : l.length ≤ 300) : (l.filter p).length ≤ 300 := Nat.le_trans (List.length_filter_le _ _) h
def upB (t : Int) (recto : Bool) : Bool := ((Go.bits .and .i64 t 4) == 0) == recto
theorem qOf (K : Nat) (hK : 1000 ≤ K) (j0 : ByteArray) (j1 j2 j3 j4 j5 j6 j7 j8 j9 j10 j11 j12 j13 : Int) (j14 j15 : Ov) (j16 j17 j18 j19 j20 j21 j22 j23 j24 j25 j26 j27 j28 j29 j30 j31 j32 : Int) (s0 s1 : Int) (fr bk : List It) (c0 c1 c2 c3 t x y : Int) (recto : Bool) (r0 : R c0) (r1 : R c1) (r2 : R c2) (r3 : R c3) (rx : R x) (ry : R y) (hf : fr.length ≤ 300) (hb : bk.length ≤ 300) (of : ∀ i ∈ fr, okI i) (ob : ∀ i ∈ bk, okI i) :
    face_Of.f (K + 50) j0 j1 j2 j3 j4 j5 j6 j7 j8 j9 j10 j11 j12 j13 j14 j15 j16 j17 j18 j19 j20 j21 j22 j23 j24 j25 j26 j27 j28 j29 j30 j31 j32 s0 s1 fr bk c0 c1 c2 c3 t x y recto = some (fin c0 c1 c2 c3 (wayOf t x y j4 recto) (((if upB t recto = true then fr else bk).filter (onP c0 c1 c2 c3)).foldl stp (zit, 0, 0))) := by
  unfold face_Of.f
  rw [layer_Up.f, turn_Mirrors.f, Option.bind_some, Option.bind_some, Bool.not_not]
  by_cases g : upB t recto = true
  · rw [if_pos (by exact g), if_pos g, qOn (K + 50) (by omega) c0 c1 c2 c3 fr hf, Option.bind_some]
    have := ofLoop K c0 c1 c2 c3 t x y j4 recto r0 r1 r2 r3 rx ry (fr.filter (onP c0 c1 c2 c3)) (filter_len hf) (filter_ok of) (fr.filter (onP c0 c1 c2 c3)).length 0 (K + 50) (zit, 0, 0) (by omega) (by have := filter_len (p := onP c0 c1 c2 c3) hf; omega) okZ
    rw [List.drop_zero] at this
    exact this
  · rw [if_neg (by exact g), if_neg g, qOn (K + 50) (by omega) c0 c1 c2 c3 bk hb, Option.bind_some, of10]
    have := ofLoop K c0 c1 c2 c3 t x y j4 recto r0 r1 r2 r3 rx ry (bk.filter (onP c0 c1 c2 c3)) (filter_len hb) (filter_ok ob) (bk.filter (onP c0 c1 c2 c3)).length 0 (K + 50) (zit, 0, 0) (by omega) (by have := filter_len (p := onP c0 c1 c2 c3) hb; omega) okZ
    rw [List.drop_zero] at this
    exact this
theorem ok_item {i : It} (h : ok_iiiiiiiiis i) : okI i := ⟨R_of h.2.2.2.1, R_of h.2.2.2.2.1, R_of h.2.2.2.2.2.1, R_of h.2.2.2.2.2.2.1, R_of h.2.2.2.2.2.2.2.1, R_of h.2.2.2.2.2.2.2.2.1⟩
theorem alive : gatherumlaw43_alive.f (2000 + 50) = some true := by kernel_rfl
theorem eight7 (t : Int) (h : 0 ≤ t ∧ t ≤ 7) : t = 0 ∨ t = 1 ∨ t = 2 ∨ t = 3 ∨ t = 4 ∨ t = 5 ∨ t = 6 ∨ t = 7 := by omega
theorem up_over (t : Int) (h : 0 ≤ t ∧ t ≤ 7) (recto : Bool) : upB (th t 4) (!recto) = upB t recto := by
  rcases eight7 t h with rfl | rfl | rfl | rfl | rfl | rfl | rfl | rfl <;> cases recto <;> decide +kernel
theorem th44 (t : Int) (h : 0 ≤ t ∧ t ≤ 7) : th (th t 4) 4 = t := by
  rcases eight7 t h with rfl | rfl | rfl | rfl | rfl | rfl | rfl | rfl <;> decide +kernel
theorem D4 (x y : Int) : D 4 x y = (wrap64 (-x), y) := by simp [D]
theorem tn_over (t x y w : Int) (h : 0 ≤ t ∧ t ≤ 7) (rx : R x) (ry : R y) : tn (tn (t, x, y) (4, w, 0)) (4, w, 0) = (t, x, y) := by
  simp only [tn, D4, th44 t h, Int.add_zero]
  have e1 : wrap64 (wrap64 (-wrap64 (wrap64 (-x) + w)) + w) = x := by
    rw [wrap_neg, wrap_add_l, show -(wrap64 (-x) + w) + w = -wrap64 (-x) by omega, wrap_neg, Int.neg_neg, R_id rx]
  have e2 : wrap64 (wrap64 y) = y := by rw [wrap_wrap, R_id ry]
  rw [e1, e2]
set_option maxHeartbeats 4000000 in
theorem FaceSides (a0_0 : ByteArray) (a0_1 : Int) (a0_2 : Int) (a0_3 : Int) (a0_4 : Int) (a0_5 : Int) (a0_6 : Int) (a0_7 : Int) (a0_8 : Int) (a0_9 : Int) (a0_10 : Int) (a0_11 : Int) (a0_12 : Int) (a0_13 : Int) (a0_14 : Ov) (a0_15 : Ov) (a0_16 : Int) (a0_17 : Int) (a0_18 : Int) (a0_19 : Int) (a0_20 : Int) (a0_21 : Int) (a0_22 : Int) (a0_23 : Int) (a0_24 : Int) (a0_25 : Int) (a0_26 : Int) (a0_27 : Int) (a0_28 : Int) (a0_29 : Int) (a0_30 : Int) (a0_31 : Int) (a0_32 : Int) (a1_0 : Int) (a1_1 : Int) (a1_2 : List (Int × Int × Int × Int × Int × Int × Int × Int × Int × ByteArray)) (a1_3 : List (Int × Int × Int × Int × Int × Int × Int × Int × Int × ByteArray)) (a2_0 : Int) (a2_1 : Int) (a2_2 : Int) (a2_3 : Int) (a2_4 : Int) (a2_5 : Int) (a2_6 : Int) (w0_0 : a0_0.size ≤ maxLen) (w0_1 : (Lit.int .i64 a0_1).wf = true) (w0_2 : (Lit.int .i64 a0_2).wf = true) (w0_3 : (Lit.int .i64 a0_3).wf = true) (w0_4 : (Lit.int .i64 a0_4).wf = true) (w0_5 : (Lit.int .i64 a0_5).wf = true) (w0_6 : (Lit.int .i64 a0_6).wf = true) (w0_7 : (Lit.int .i64 a0_7).wf = true) (w0_8 : (Lit.int .i64 a0_8).wf = true) (w0_9 : (Lit.int .i64 a0_9).wf = true) (w0_10 : (Lit.int .i64 a0_10).wf = true) (w0_11 : (Lit.int .i64 a0_11).wf = true) (w0_12 : (Lit.int .i64 a0_12).wf = true) (w0_13 : (Lit.int .i64 a0_13).wf = true) (w0_16 : (Lit.int .i64 a0_16).wf = true) (w0_17 : (Lit.int .i64 a0_17).wf = true) (w0_18 : (Lit.int .i64 a0_18).wf = true) (w0_19 : (Lit.int .i64 a0_19).wf = true) (w0_20 : (Lit.int .i64 a0_20).wf = true) (w0_21 : (Lit.int .i64 a0_21).wf = true) (w0_22 : (Lit.int .i64 a0_22).wf = true) (w0_23 : (Lit.int .i64 a0_23).wf = true) (w0_24 : (Lit.int .i64 a0_24).wf = true) (w0_25 : (Lit.int .i64 a0_25).wf = true) (w0_26 : (Lit.int .i64 a0_26).wf = true) (w0_27 : (Lit.int .i64 a0_27).wf = true) (w0_28 : (Lit.int .i64 a0_28).wf = true) (w0_29 : (Lit.int .i64 a0_29).wf = true) (w0_30 : (Lit.int .i64 a0_30).wf = true) (w0_31 : (Lit.int .i64 a0_31).wf = true) (w0_32 : (Lit.int .i64 a0_32).wf = true) (w1_0 : (Lit.int .i64 a1_0).wf = true) (w1_1 : (Lit.int .i64 a1_1).wf = true) (w1_2 : (a1_2.length ≤ maxLen ∧ ∀ x ∈ a1_2, ok_iiiiiiiiis x)) (w1_3 : (a1_3.length ≤ maxLen ∧ ∀ x ∈ a1_3, ok_iiiiiiiiis x)) (w2_0 : (Lit.int .i64 a2_0).wf = true) (w2_1 : (Lit.int .i64 a2_1).wf = true) (w2_2 : (Lit.int .i64 a2_2).wf = true) (w2_3 : (Lit.int .i64 a2_3).wf = true) (w2_4 : (Lit.int .i64 a2_4).wf = true) (w2_5 : (Lit.int .i64 a2_5).wf = true) (w2_6 : (Lit.int .i64 a2_6).wf = true) : ∃ K : Nat, gatherumlaw43_FaceSides.f K a0_0 a0_1 a0_2 a0_3 a0_4 a0_5 a0_6 a0_7 a0_8 a0_9 a0_10 a0_11 a0_12 a0_13 a0_14 a0_15 a0_16 a0_17 a0_18 a0_19 a0_20 a0_21 a0_22 a0_23 a0_24 a0_25 a0_26 a0_27 a0_28 a0_29 a0_30 a0_31 a0_32 a1_0 a1_1 a1_2 a1_3 a2_0 a2_1 a2_2 a2_3 a2_4 a2_5 a2_6 = some true := by
  obtain ⟨K, hK0⟩ : ∃ K : Nat, K = 2000 := ⟨_, rfl⟩
  have alive : gatherumlaw43_alive.f (K + 50) = some true := by rw [hK0]; exact alive
  have hK : 1000 ≤ K := by omega
  clear hK0
  refine ⟨K + 50, ?_⟩
  unfold gatherumlaw43_FaceSides.f
  rw [alive, Option.bind_some, if_neg (by decide), gatherumlaw43_few.f]
  by_cases hf : a1_2.length ≤ 300
  case neg => rw [if_neg (by simp; omega)]; rfl
  rw [if_pos (by simp; omega), Option.bind_some]
  by_cases hb : a1_3.length ≤ 300
  case neg => rw [if_pos (by simp; omega)]
  rw [if_neg (by simp; omega)]
  by_cases g1 : a2_4 < 0
  · rw [if_pos (by simpa using g1)]
  rw [if_neg (by simpa using g1)]
  by_cases g2 : 7 < a2_4
  · rw [if_pos (by simpa using g2)]
  rw [if_neg (by simpa using g2)]
  have ht : 0 ≤ a2_4 ∧ a2_4 ≤ 7 := by omega
  have okf : ∀ i ∈ a1_2, okI i := fun i hi => ok_item (w1_2.2 i hi)
  have okb : ∀ i ∈ a1_3, okI i := fun i hi => ok_item (w1_3.2 i hi)
  have r0 := R_of w2_0
  have r1 := R_of w2_1
  have r2 := R_of w2_2
  have r3 := R_of w2_3
  have rx := R_of w2_5
  have ry := R_of w2_6
  have V := tn_over a2_4 a2_5 a2_6 a0_4 ht rx ry
  have U1 := up_over a2_4 ht true
  have U2 := up_over a2_4 ht false
  rw [q04Then K _ _ _ _ _ _ rx ry, Option.bind_some]
  have O1 := qOf K hK a0_0 a0_1 a0_2 a0_3 a0_4 a0_5 a0_6 a0_7 a0_8 a0_9 a0_10 a0_11 a0_12 a0_13 a0_14 a0_15 a0_16 a0_17 a0_18 a0_19 a0_20 a0_21 a0_22 a0_23 a0_24 a0_25 a0_26 a0_27 a0_28 a0_29 a0_30 a0_31 a0_32 a1_0 a1_1 a1_2 a1_3 a2_0 a2_1 a2_2 a2_3 a2_4 a2_5 a2_6 true r0 r1 r2 r3 rx ry hf hb okf okb
  have O2 := qOf K hK a0_0 a0_1 a0_2 a0_3 a0_4 a0_5 a0_6 a0_7 a0_8 a0_9 a0_10 a0_11 a0_12 a0_13 a0_14 a0_15 a0_16 a0_17 a0_18 a0_19 a0_20 a0_21 a0_22 a0_23 a0_24 a0_25 a0_26 a0_27 a0_28 a0_29 a0_30 a0_31 a0_32 a1_0 a1_1 a1_2 a1_3 a2_0 a2_1 a2_2 a2_3 (th a2_4 4) (wrap64 ((D 4 a2_5 a2_6).1 + a0_4)) (wrap64 ((D 4 a2_5 a2_6).2 + 0)) false r0 r1 r2 r3 (R_wrap _) (R_wrap _) hf hb okf okb
  have O3 := qOf K hK a0_0 a0_1 a0_2 a0_3 a0_4 a0_5 a0_6 a0_7 a0_8 a0_9 a0_10 a0_11 a0_12 a0_13 a0_14 a0_15 a0_16 a0_17 a0_18 a0_19 a0_20 a0_21 a0_22 a0_23 a0_24 a0_25 a0_26 a0_27 a0_28 a0_29 a0_30 a0_31 a0_32 a1_0 a1_1 a1_2 a1_3 a2_0 a2_1 a2_2 a2_3 a2_4 a2_5 a2_6 false r0 r1 r2 r3 rx ry hf hb okf okb
  have O4 := qOf K hK a0_0 a0_1 a0_2 a0_3 a0_4 a0_5 a0_6 a0_7 a0_8 a0_9 a0_10 a0_11 a0_12 a0_13 a0_14 a0_15 a0_16 a0_17 a0_18 a0_19 a0_20 a0_21 a0_22 a0_23 a0_24 a0_25 a0_26 a0_27 a0_28 a0_29 a0_30 a0_31 a0_32 a1_0 a1_1 a1_2 a1_3 a2_0 a2_1 a2_2 a2_3 (th a2_4 4) (wrap64 ((D 4 a2_5 a2_6).1 + a0_4)) (wrap64 ((D 4 a2_5 a2_6).2 + 0)) true r0 r1 r2 r3 (R_wrap _) (R_wrap _) hf hb okf okb
  have W1 : wayOf a2_4 a2_5 a2_6 a0_4 true = (a2_4, a2_5, a2_6) := rfl
  have W2 : wayOf (th a2_4 4) (wrap64 ((D 4 a2_5 a2_6).1 + a0_4)) (wrap64 ((D 4 a2_5 a2_6).2 + 0)) a0_4 false = (a2_4, a2_5, a2_6) := V
  have W3 : wayOf a2_4 a2_5 a2_6 a0_4 false = (th a2_4 4, wrap64 ((D 4 a2_5 a2_6).1 + a0_4), wrap64 ((D 4 a2_5 a2_6).2 + 0)) := rfl
  have W4 : wayOf (th a2_4 4) (wrap64 ((D 4 a2_5 a2_6).1 + a0_4)) (wrap64 ((D 4 a2_5 a2_6).2 + 0)) a0_4 true = (th a2_4 4, wrap64 ((D 4 a2_5 a2_6).1 + a0_4), wrap64 ((D 4 a2_5 a2_6).2 + 0)) := rfl
  rw [W1] at O1
  rw [W2, show upB (th a2_4 4) false = upB a2_4 true from U1] at O2
  rw [W3] at O3
  rw [W4, show upB (th a2_4 4) true = upB a2_4 false from U2] at O4
  rw [O1, Option.bind_some, O2, Option.bind_some, O3, Option.bind_some, O4, Option.bind_some]
  generalize fin a2_0 a2_1 a2_2 a2_3 (a2_4, a2_5, a2_6) _ = u
  generalize fin a2_0 a2_1 a2_2 a2_3 _ _ = v
  simp
end Go.Proofs.Ythgmjhidigoneaa.PureFaceSides
