import Derived.Test.YtnahjeeochfljaaPPlaceGroupx0
import Derived.Test.YtnahjeeochfljaaPPlaceGroupx1
import Derived.Test.YtnahjeeochfljaaPPlaceGroupx2
import Derived.Test.YtnahjeeochfljaaPPlaceGroupx4
import Derived.Test.YtnahjeeochfljaaPPlaceGroupx5
namespace Go.Proofs.Ytnahjeeochfljaa.PPlaceGroup
open Go.RowKit Go.Proofs.YtnahjeeochfljaaW.PrintWords Go.Proofs.YtnahjeeochfljaaW.PrintLast Go.Proofs.YtnahjeeochfljaaW.PrintMore
open Bool renaming true → Zt, false → Zf
open Go.Proofs.YtnahjeeochfljaaW.PrintWords.Aside0 renaming mk → Za
open List renaming setIfInBounds_toArray → Xa, set_cons_zero → Xb, set_cons_succ → Xc
open Go.Proofs.YtnahjeeochfljaaW.PrintWords renaming blk_cell → Xd, blk_below → Xe, Aside0 → Xh, blk_drew → Xi, blk_drewN → Xk, blk_alloc → Xl, blk_lt → Xn, below_step → Xo, below_set → Xp, below_size → Xs, blk_far → Xt, cell_far → Xv
open Go.Proofs.YtnahjeeochfljaaW.PrintLast renaming i64_w → Xf, i32_w → Xg, any_of → Xj, pure_ → Xm, take_ofW → Xq, norm_ → Xr, putAll → Xu
attribute [local go_sem] max2_int min2_int max_two min_two max_three min_three max_four min_four   -- for this text's walks alone
set_option linter.unusedVariables false
set_option linter.unusedSimpArgs false
theorem bb_6 {p q : Prop} (h : q) (f : q → p := by intro h_; (with_reducible repeat (first | refine blk_drewN ?_ _ | refine blk_drew ?_ | refine blk_alloc ?_ _)); exact h_) : p := f h
theorem hb_6 {B : Nat} {w W W1 : World} (h : Below B w W) (f : Below B w W → Below B w W1 := by intro h_; repeat (first | (with_reducible first | exact h_ | apply below_alloc | apply pw_below_drewN | apply below_drew1 | refine below_set ?_ (Aside0.out (by assumption))) | exact h_)) : Below B w W1 := f h

attribute [local go_sem high] eqA23 eqA25
/-! ### gatherumlaw06_PlaceGroup: function 13 -/
def gatherumlaw06_PlaceGroup.j0 : Nat → Bool → Int → Int → Int → Int → Int → Int → Int → Int → Option (Bool)
 | 0, _, _, _, _, _, _, _, _, _ => none
 | k + 1, x31, x180000, x180001, x180002, x182000, x182001, x191000, x191001, x191002 => if x31 = Zt then (some Zf) else ((place_Do.f k x180000 x180001 x180002 x182000 x182001).bind fun bt200 => ((place_Do.f k x191000 x191001 x191002 bt200.1 bt200.2).bind fun bt202 => (if (bt202.1 == x182000 && (bt202.2 == x182001)) = Zt then ((place_Then.f k x180000 x180001 x180002 x191000 x191001 x191002).bind fun bt204 => (if (bt204.1 == 0 && (bt204.2.1 == 0 && (bt204.2.2 == 0))) = Zt then ((place_Then.f k x191000 x191001 x191002 x180000 x180001 x180002).bind fun bt207 => (if (bt207.1 == 0 && (bt207.2.1 == 0 && (bt207.2.2 == 0))) = Zt then (if x191000 ≥ 0 then (some (decide (x191000 ≤ 7))) else (some Zf)) else (some Zf))) else (some Zf))) else (some Zf))))
def gatherumlaw06_PlaceGroup.f (k : Nat) (a0_0 : Int) (a0_1 : Int) (a0_2 : Int) (a1_0 : Int) (a1_1 : Int) (a1_2 : Int) (a2_0 : Int) (a2_1 : Int) : Option (Bool) := (gatherumlaw06_alive.f k).bind fun t182 => (if t182 = Zt then ((place_Then.f k a0_0 a0_1 a0_2 a1_0 a1_1 a1_2).bind fun bt183 => ((place_Back.f k a0_0 a0_1 a0_2).bind fun bt186 => ((gatherumref04_Then.f k a0_0 a0_1 a0_2 a1_0 a1_1 a1_2).bind fun bt191 => (if (!(bt183.1 == bt191.1) || (!(bt183.2.1 == bt191.2.1) || (!(bt183.2.2 == bt191.2.2)))) = Zt then (gatherumlaw06_PlaceGroup.j0 k Zt a0_0 a0_1 a0_2 a2_0 a2_1 bt186.1 bt186.2.1 bt186.2.2) else ((place_Do.f k bt183.1 bt183.2.1 bt183.2.2 a2_0 a2_1).bind fun bt194 => ((place_Do.f k a0_0 a0_1 a0_2 a2_0 a2_1).bind fun bt196 => ((place_Do.f k a1_0 a1_1 a1_2 bt196.1 bt196.2).bind fun bt198 => (gatherumlaw06_PlaceGroup.j0 k (!(bt194.1 == bt198.1) || (!(bt194.2 == bt198.2))) a0_0 a0_1 a0_2 a2_0 a2_1 bt186.1 bt186.2.1 bt186.2.2)))))))) else (some Zf))
theorem gatherumlaw06_PlaceGroup.mono_l : ∀ k, (∀ y0 y1 y2 y3 y4 y5 y6 y7 y8, LeO (gatherumlaw06_PlaceGroup.j0 k y0 y1 y2 y3 y4 y5 y6 y7 y8) (gatherumlaw06_PlaceGroup.j0 (k + 1) y0 y1 y2 y3 y4 y5 y6 y7 y8))
 | 0 => fun _ _ _ _ _ _ _ _ _ r h => by simp [gatherumlaw06_PlaceGroup.j0] at h
 | k + 1 => by
  have ih0 := gatherumlaw06_PlaceGroup.mono_l k
  ·intro y0 y1 y2 y3 y4 y5 y6 y7 y8
   unfold gatherumlaw06_PlaceGroup.j0
   repeat' first
   | (with_reducible exact ih0 _ _ _ _ _ _ _ _ _)
   | (with_reducible exact gatherumlaw06_alive.mono _)
   | (with_reducible exact gatherumref04_Then.mono _ _ _ _ _ _ _)
   | (with_reducible exact place_Back.mono _ _ _ _)
   | (with_reducible exact place_Do.mono _ _ _ _ _ _)
   | (with_reducible exact place_Then.mono _ _ _ _ _ _ _)
   | (with_reducible exact LeO.refl _)
   | (with_reducible exact LeO.none _)
   | (with_reducible refine LeO.ite ?_ ?_)
   | (with_reducible refine LeO.bind ?_ (fun _ => ?_))
   | exact ih0 _ _ _ _ _ _ _ _ _
   | exact gatherumlaw06_alive.mono _
   | exact gatherumref04_Then.mono _ _ _ _ _ _ _
   | exact place_Back.mono _ _ _ _
   | exact place_Do.mono _ _ _ _ _ _
   | exact place_Then.mono _ _ _ _ _ _ _
   | exact LeO.none _
   | refine LeO.ite ?_ ?_
   | refine LeO.bind ?_ (fun _ => ?_)
theorem gatherumlaw06_PlaceGroup.mono : ∀ a0 a1 a2 a3 a4 a5 a6 a7 k, LeO (gatherumlaw06_PlaceGroup.f k a0 a1 a2 a3 a4 a5 a6 a7) (gatherumlaw06_PlaceGroup.f (k + 1) a0 a1 a2 a3 a4 a5 a6 a7) := by
 intro a0 a1 a2 a3 a4 a5 a6 a7 k
 have ih0 := gatherumlaw06_PlaceGroup.mono_l k
 unfold gatherumlaw06_PlaceGroup.f
 repeat' first
   | (with_reducible exact ih0 _ _ _ _ _ _ _ _ _)
   | (with_reducible exact gatherumlaw06_alive.mono _)
   | (with_reducible exact gatherumref04_Then.mono _ _ _ _ _ _ _)
   | (with_reducible exact place_Back.mono _ _ _ _)
   | (with_reducible exact place_Do.mono _ _ _ _ _ _)
   | (with_reducible exact place_Then.mono _ _ _ _ _ _ _)
   | (with_reducible exact LeO.refl _)
   | (with_reducible exact LeO.none _)
   | (with_reducible refine LeO.ite ?_ ?_)
   | (with_reducible refine LeO.bind ?_ (fun _ => ?_))
   | exact ih0 _ _ _ _ _ _ _ _ _
   | exact gatherumlaw06_alive.mono _
   | exact gatherumref04_Then.mono _ _ _ _ _ _ _
   | exact place_Back.mono _ _ _ _
   | exact place_Do.mono _ _ _ _ _ _
   | exact place_Then.mono _ _ _ _ _ _ _
   | exact LeO.none _
   | refine LeO.ite ?_ ?_
   | refine LeO.bind ?_ (fun _ => ?_)
def gatherumlaw06_PlaceGroup.T3 : Bool × List (List Nat × List Nat) := (Zt, [([], []), ([], []), ([0, 1], [0, 1]), ([], []), ([3, 2], [3]), ([], []), ([], []), ([5, 2, 4, 0, 1, 2, 5, 6], [2, 5]), ([6, 4, 7, 0, 1, 2, 3, 4, 5, 6, 7], [4, 6])])
def gatherumlaw06_PlaceGroup.B3 : List Nat := [0, 0, 3, 0, 15, 0, 0, 127, 255]
theorem gatherumlaw06_PlaceGroup.tab3 : rtab .any (opsOf Try.f13 3) = gatherumlaw06_PlaceGroup.T3 := by kernel_rfl
theorem gatherumlaw06_PlaceGroup.bits3 : waitsOk gatherumlaw06_PlaceGroup.T3.2 gatherumlaw06_PlaceGroup.B3 = Zt := by kernel_rfl
def gatherumlaw06_PlaceGroup.T4 : Bool × List (List Nat × List Nat) := (Zt, [([], []), ([], []), ([], []), ([1, 2], [1, 2]), ([0, 3], [0, 3]), ([4, 3], [4]), ([5], [5]), ([5], [5]), ([6, 7, 5, 5], [5, 6, 7]), ([5], [5]), ([5], [5]), ([5], [5]), ([10, 11, 8, 5], [5, 10, 11]), ([9, 12, 12, 5], [5, 9, 12]), ([8, 13, 5], [5, 8, 13]), ([5, 14], [5, 14])])
def gatherumlaw06_PlaceGroup.B4 : List Nat := [0, 0, 0, 6, 15, 31, 63, 63, 255, 63, 63, 63, 3583, 8191, 16383, 32767]
theorem gatherumlaw06_PlaceGroup.tab4 : rtab .any (opsOf Try.f13 4) = gatherumlaw06_PlaceGroup.T4 := by kernel_rfl
theorem gatherumlaw06_PlaceGroup.bits4 : waitsOk gatherumlaw06_PlaceGroup.T4.2 gatherumlaw06_PlaceGroup.B4 = Zt := by kernel_rfl
def gatherumlaw06_PlaceGroup.T6 : Bool × List (List Nat × List Nat) := (Zt, [([], []), ([], []), ([], []), ([1, 2], [1, 2]), ([0, 3, 3], [0, 3]), ([], []), ([4, 5], [4, 5]), ([6, 4], [6]), ([7], [7]), ([7], [7]), ([8, 9, 7, 7], [7, 8, 9]), ([7], [7]), ([10, 11, 7], [7, 10, 11]), ([7, 12], [7, 12]), ([13, 10], [13]), ([14], [14]), ([14], [14]), ([15, 16, 14, 14], [14, 15, 16]), ([14], [14]), ([17, 18, 14], [14, 17, 18]), ([14, 19], [14, 19]), ([20, 17], [20]), ([21], [21]), ([22, 21], [21, 22]), ([23, 21], [21, 23]), ([21, 24], [21, 24]), ([25, 21], [25]), ([26], [26]), ([27, 26], [26, 27]), ([28, 26], [26, 28]), ([26, 29], [26, 29]), ([30, 26, 0, 1, 2, 3, 4, 5, 6, 7, 8, 9, 10, 11, 12, 13, 14, 15, 16, 17, 18, 19, 20, 21, 22, 23, 24, 25, 26, 27, 28, 29, 30], [30])])
def gatherumlaw06_PlaceGroup.B6 : List Nat := [0, 0, 0, 6, 15, 0, 63, 127, 255, 255, 1023, 255, 4095, 8191, 16383, 32767, 32767, 131071, 32767, 524287, 1048575, 2097151, 4194303, 8388607, 16777215, 33554431, 67108863, 134217727, 268435455, 536870911, 1073741823, 2147483647]
theorem gatherumlaw06_PlaceGroup.tab6 : rtab .any (opsOf Try.f13 6) = gatherumlaw06_PlaceGroup.T6 := by kernel_rfl
theorem gatherumlaw06_PlaceGroup.bits6 : waitsOk gatherumlaw06_PlaceGroup.T6.2 gatherumlaw06_PlaceGroup.B6 = Zt := by kernel_rfl
set_option maxHeartbeats 8000000 in
set_option maxRecDepth 100000 in
theorem gatherumlaw06_PlaceGroup.calls (k : Nat) (a0_0 : Int) (a0_1 : Int) (a0_2 : Int) (a1_0 : Int) (a1_1 : Int) (a1_2 : Int) (a2_0 : Int) (a2_1 : Int) (r : Bool) (w : World) (h : gatherumlaw06_PlaceGroup.f k a0_0 a0_1 a0_2 a1_0 a1_1 a1_2 a2_0 a2_1 = some r) :
  Calls Try.prog 13 #[.agg #[.int .i64 a0_0, .int .i64 a0_1, .int .i64 a0_2], .agg #[.int .i64 a1_0, .int .i64 a1_1, .int .i64 a1_2], .agg #[.int .i64 a2_0, .int .i64 a2_1]] w fun e w' => e = .returned (.bool r) ∧ Below w.heap.size w w' := by
 have hu23 := Try.underlying23
 have hu25 := Try.underlying25
 have HB := Za (Below.refl w.heap.size w)
 have H : ((gatherumlaw06_alive.f k).bind fun t182 => (if t182 = Zt then ((place_Then.f k a0_0 a0_1 a0_2 a1_0 a1_1 a1_2).bind fun bt183 => ((place_Back.f k a0_0 a0_1 a0_2).bind fun bt186 => ((gatherumref04_Then.f k a0_0 a0_1 a0_2 a1_0 a1_1 a1_2).bind fun bt191 => (if (!(bt183.1 == bt191.1) || (!(bt183.2.1 == bt191.2.1) || (!(bt183.2.2 == bt191.2.2)))) = Zt then (gatherumlaw06_PlaceGroup.j0 k Zt a0_0 a0_1 a0_2 a2_0 a2_1 bt186.1 bt186.2.1 bt186.2.2) else ((place_Do.f k bt183.1 bt183.2.1 bt183.2.2 a2_0 a2_1).bind fun bt194 => ((place_Do.f k a0_0 a0_1 a0_2 a2_0 a2_1).bind fun bt196 => ((place_Do.f k a1_0 a1_1 a1_2 bt196.1 bt196.2).bind fun bt198 => (gatherumlaw06_PlaceGroup.j0 k (!(bt194.1 == bt198.1) || (!(bt194.2 == bt198.2))) a0_0 a0_1 a0_2 a2_0 a2_1 bt186.1 bt186.2.1 bt186.2.2)))))))) else (some Zf))) = some r := h
 clear h
 replace H := Option.bind_eq_some_iff.mp H
 obtain ⟨t182, A40, H⟩ := H
 replace H : (if t182 = Zt then ((place_Then.f k a0_0 a0_1 a0_2 a1_0 a1_1 a1_2).bind fun bt183 => ((place_Back.f k a0_0 a0_1 a0_2).bind fun bt186 => ((gatherumref04_Then.f k a0_0 a0_1 a0_2 a1_0 a1_1 a1_2).bind fun bt191 => (if (!(bt183.1 == bt191.1) || (!(bt183.2.1 == bt191.2.1) || (!(bt183.2.2 == bt191.2.2)))) = Zt then (gatherumlaw06_PlaceGroup.j0 k Zt a0_0 a0_1 a0_2 a2_0 a2_1 bt186.1 bt186.2.1 bt186.2.2) else ((place_Do.f k bt183.1 bt183.2.1 bt183.2.2 a2_0 a2_1).bind fun bt194 => ((place_Do.f k a0_0 a0_1 a0_2 a2_0 a2_1).bind fun bt196 => ((place_Do.f k a1_0 a1_1 a1_2 bt196.1 bt196.2).bind fun bt198 => (gatherumlaw06_PlaceGroup.j0 k (!(bt194.1 == bt198.1) || (!(bt194.2 == bt198.2))) a0_0 a0_1 a0_2 a2_0 a2_1 bt186.1 bt186.2.1 bt186.2.2)))))))) else (some Zf)) = some r := H
 have A4 := Za A40
 clear A40
 by_cases c5 : t182 = Zt
 ·subst c5
  have H1 : ((place_Then.f k a0_0 a0_1 a0_2 a1_0 a1_1 a1_2).bind fun bt183 => ((place_Back.f k a0_0 a0_1 a0_2).bind fun bt186 => ((gatherumref04_Then.f k a0_0 a0_1 a0_2 a1_0 a1_1 a1_2).bind fun bt191 => (if (!(bt183.1 == bt191.1) || (!(bt183.2.1 == bt191.2.1) || (!(bt183.2.2 == bt191.2.2)))) = Zt then (gatherumlaw06_PlaceGroup.j0 k Zt a0_0 a0_1 a0_2 a2_0 a2_1 bt186.1 bt186.2.1 bt186.2.2) else ((place_Do.f k bt183.1 bt183.2.1 bt183.2.2 a2_0 a2_1).bind fun bt194 => ((place_Do.f k a0_0 a0_1 a0_2 a2_0 a2_1).bind fun bt196 => ((place_Do.f k a1_0 a1_1 a1_2 bt196.1 bt196.2).bind fun bt198 => (gatherumlaw06_PlaceGroup.j0 k (!(bt194.1 == bt198.1) || (!(bt194.2 == bt198.2))) a0_0 a0_1 a0_2 a2_0 a2_1 bt186.1 bt186.2.1 bt186.2.2)))))))) = some r := by rw [if_pos rfl] at H; exact H
  clear H
  have H := H1
  clear H1
  replace H := Option.bind_eq_some_iff.mp H
  obtain ⟨⟨t183, t184, t185⟩, A60, H⟩ := H
  replace H : ((place_Back.f k a0_0 a0_1 a0_2).bind fun bt186 => ((gatherumref04_Then.f k a0_0 a0_1 a0_2 a1_0 a1_1 a1_2).bind fun bt191 => (if (!(t183 == bt191.1) || (!(t184 == bt191.2.1) || (!(t185 == bt191.2.2)))) = Zt then (gatherumlaw06_PlaceGroup.j0 k Zt a0_0 a0_1 a0_2 a2_0 a2_1 bt186.1 bt186.2.1 bt186.2.2) else ((place_Do.f k t183 t184 t185 a2_0 a2_1).bind fun bt194 => ((place_Do.f k a0_0 a0_1 a0_2 a2_0 a2_1).bind fun bt196 => ((place_Do.f k a1_0 a1_1 a1_2 bt196.1 bt196.2).bind fun bt198 => (gatherumlaw06_PlaceGroup.j0 k (!(bt194.1 == bt198.1) || (!(bt194.2 == bt198.2))) a0_0 a0_1 a0_2 a2_0 a2_1 bt186.1 bt186.2.1 bt186.2.2))))))) = some r := H
  have A6 := Za A60
  clear A60
  replace H := Option.bind_eq_some_iff.mp H
  obtain ⟨⟨t186, t187, t188⟩, A70, H⟩ := H
  replace H : ((gatherumref04_Then.f k a0_0 a0_1 a0_2 a1_0 a1_1 a1_2).bind fun bt191 => (if (!(t183 == bt191.1) || (!(t184 == bt191.2.1) || (!(t185 == bt191.2.2)))) = Zt then (gatherumlaw06_PlaceGroup.j0 k Zt a0_0 a0_1 a0_2 a2_0 a2_1 t186 t187 t188) else ((place_Do.f k t183 t184 t185 a2_0 a2_1).bind fun bt194 => ((place_Do.f k a0_0 a0_1 a0_2 a2_0 a2_1).bind fun bt196 => ((place_Do.f k a1_0 a1_1 a1_2 bt196.1 bt196.2).bind fun bt198 => (gatherumlaw06_PlaceGroup.j0 k (!(bt194.1 == bt198.1) || (!(bt194.2 == bt198.2))) a0_0 a0_1 a0_2 a2_0 a2_1 t186 t187 t188)))))) = some r := H
  have A7 := Za A70
  clear A70
  have HC8 := Za H
  clear H
  go_enter Try.func13, Try.ntmps13
  try go_wp2_with (first | ((with_reducible refine gate_dst (N := 3) rfl ?_); refine box_event ?hg (N := 3) ?hd (cs := #[.int .i64 a0_0, .int .i64 a0_1, .int .i64 a0_2]) (t := 23) ?hr ?_; (case hd => rfl); (case hg => rfl); (case hr => first | (go_simp; done) | (go_simp; rfl)); intro gb179 hg w9 hbox hb; have n0_ := Za (Xo (hb_6 HB.out) hb); have n1_ := Za (hbox); have n2_ := Za ((by rw [hg]; exact (Xs (hb_6 HB.out)) : w.heap.size ≤ gb179)); have n3_ := Za ((by rw [hg]; exact (Xs (hb_6 HB.out)) : w.heap.size ≤ gb179)); clear HB; have HB := n0_; have BK179 := n1_; have GW179 := n2_; have GE179 := n3_; clear n0_ n1_ n2_ n3_; clear hb hbox hg) | ((with_reducible refine gate_dst (N := 4) rfl ?_); refine box_event ?hg (N := 4) ?hd (cs := #[.int .i64 a1_0, .int .i64 a1_1, .int .i64 a1_2]) (t := 23) ?hr ?_; (case hd => rfl); (case hg => rfl); (case hr => first | (go_simp; done) | (go_simp; rfl)); intro gb180 hg w10 hbox hb; have n0_ := Za (Xe (g := gb179) (o := .cells #[.int .i64 a0_0, .int .i64 a0_1, .int .i64 a0_2] 23 (0, 0)) (bb_6 BK179.out) hb); have n1_ := Za (Xo (hb_6 HB.out) hb); have n2_ := Za (hbox); have n3_ := Za ((by rw [hg]; exact (Xs (hb_6 HB.out)) : w.heap.size ≤ gb180)); have n4_ := Za ((by rw [hg]; exact (Xs (hb_6 HB.out)) : w.heap.size ≤ gb180)); have n5_ := Za ((by rw [hg]; exact Nat.ne_of_lt (Xn (g := gb179) (o := .cells #[.int .i64 a0_0, .int .i64 a0_1, .int .i64 a0_2] 23 (0, 0)) (bb_6 BK179.out)) : gb179 ≠ gb180)); have n6_ := Za ((by rw [hg]; exact Nat.ne_of_gt (Xn (g := gb179) (o := .cells #[.int .i64 a0_0, .int .i64 a0_1, .int .i64 a0_2] 23 (0, 0)) (bb_6 BK179.out)) : gb180 ≠ gb179)); clear BK179; clear HB; have BK179 := n0_; have HB := n1_; have BK180 := n2_; have GW180 := n3_; have GE180 := n4_; have NB179_180 := n5_; have NB180_179 := n6_; clear n0_ n1_ n2_ n3_ n4_ n5_ n6_; clear hb hbox hg) | ((with_reducible refine gate_dst (N := 5) rfl ?_); refine box_event ?hg (N := 5) ?hd (cs := #[.int .i64 a2_0, .int .i64 a2_1]) (t := 25) ?hr ?_; (case hd => rfl); (case hg => rfl); (case hr => first | (go_simp; done) | (go_simp; rfl)); intro gb181 hg w11 hbox hb; have n0_ := Za (Xe (g := gb179) (o := .cells #[.int .i64 a0_0, .int .i64 a0_1, .int .i64 a0_2] 23 (0, 0)) (bb_6 BK179.out) hb); have n1_ := Za (Xe (g := gb180) (o := .cells #[.int .i64 a1_0, .int .i64 a1_1, .int .i64 a1_2] 23 (0, 0)) (bb_6 BK180.out) hb); have n2_ := Za (Xo (hb_6 HB.out) hb); have n3_ := Za (hbox); have n4_ := Za ((by rw [hg]; exact (Xs (hb_6 HB.out)) : w.heap.size ≤ gb181)); have n5_ := Za ((by rw [hg]; exact (Xs (hb_6 HB.out)) : w.heap.size ≤ gb181)); have n6_ := Za ((by rw [hg]; exact Nat.ne_of_lt (Xn (g := gb179) (o := .cells #[.int .i64 a0_0, .int .i64 a0_1, .int .i64 a0_2] 23 (0, 0)) (bb_6 BK179.out)) : gb179 ≠ gb181)); have n7_ := Za ((by rw [hg]; exact Nat.ne_of_gt (Xn (g := gb179) (o := .cells #[.int .i64 a0_0, .int .i64 a0_1, .int .i64 a0_2] 23 (0, 0)) (bb_6 BK179.out)) : gb181 ≠ gb179)); have n8_ := Za ((by rw [hg]; exact Nat.ne_of_lt (Xn (g := gb180) (o := .cells #[.int .i64 a1_0, .int .i64 a1_1, .int .i64 a1_2] 23 (0, 0)) (bb_6 BK180.out)) : gb180 ≠ gb181)); have n9_ := Za ((by rw [hg]; exact Nat.ne_of_gt (Xn (g := gb180) (o := .cells #[.int .i64 a1_0, .int .i64 a1_1, .int .i64 a1_2] 23 (0, 0)) (bb_6 BK180.out)) : gb181 ≠ gb180)); clear BK179; clear BK180; clear HB; have BK179 := n0_; have BK180 := n1_; have HB := n2_; have BK181 := n3_; have GW181 := n4_; have GE181 := n5_; have NB179_181 := n6_; have NB181_179 := n7_; have NB180_181 := n8_; have NB181_180 := n9_; clear n0_ n1_ n2_ n3_ n4_ n5_ n6_ n7_ n8_ n9_; clear hb hbox hg) | ((with_reducible refine gate_callee (f := 14) rfl ?_); refine goesL_ (some 9) rfl rfl Try.func14 (by kernel_rfl) rfl #[] rfl (by (try simp only [List.map_toArray, List.map_cons, List.map_nil]); first | done | rfl | (simp only [List.length_drop, List.length_take]; rfl)) ?_; (with_reducible refine (gatherumlaw06_alive.calls k  Zt _ A4.out).mono ?_); rintro e w12 ⟨rfl, hb⟩; refine ⟨_, rfl, ?_⟩; have n0_ := Za (Xe (g := gb179) (o := .cells #[.int .i64 a0_0, .int .i64 a0_1, .int .i64 a0_2] 23 (0, 0)) (bb_6 BK179.out) hb); have n1_ := Za (Xe (g := gb180) (o := .cells #[.int .i64 a1_0, .int .i64 a1_1, .int .i64 a1_2] 23 (0, 0)) (bb_6 BK180.out) hb); have n2_ := Za (Xe (g := gb181) (o := .cells #[.int .i64 a2_0, .int .i64 a2_1] 25 (0, 0)) (bb_6 BK181.out) hb); have n3_ := Za (Xo (hb_6 HB.out) hb); clear BK179; clear BK180; clear BK181; clear HB; have BK179 := n0_; have BK180 := n1_; have BK181 := n2_; have HB := n3_; clear n0_ n1_ n2_ n3_; (try clear hb); (try clear hb2); (try clear hk); (try clear hi)))
  have n0_ := Za (Xi BK179.out)
  have n1_ := Za (Xi BK180.out)
  have n2_ := Za (Xi BK181.out)
  have n3_ := Za (below_drew1 HB.out)
  clear BK179
  clear BK180
  clear BK181
  clear HB
  have BK179 := n0_
  have BK180 := n1_
  have BK181 := n2_
  have HB := n3_
  clear n0_ n1_ n2_ n3_
  refine start_ (n := 9) (S := fun w' => w'.cell? ⟨gb179, 0, none⟩ = some (.int .i64 a0_0) ∧ w'.cell? ⟨gb179, 1, none⟩ = some (.int .i64 a0_1) ∧ w'.cell? ⟨gb179, 2, none⟩ = some (.int .i64 a0_2) ∧ w'.cell? ⟨gb180, 0, none⟩ = some (.int .i64 a1_0) ∧ w'.cell? ⟨gb180, 1, none⟩ = some (.int .i64 a1_1) ∧ w'.cell? ⟨gb180, 2, none⟩ = some (.int .i64 a1_2)) (ds := []) #[Zf,Zf,Zf,Zf,Zf,Zf,Zf,Zf,Zf] (by kernel_rfl) rfl rfl ⟨(Xd BK179.out 0).trans rfl, (Xd BK179.out 1).trans rfl, (Xd BK179.out 2).trans rfl, (Xd BK180.out 0).trans rfl, (Xd BK180.out 1).trans rfl, (Xd BK180.out 2).trans rfl⟩ (fun hHeld => ?_); refine with_tabW gatherumlaw06_PlaceGroup.tab3 gatherumlaw06_PlaceGroup.bits3 (fun HT_ HW_ => ?_)
  generalize w12.drew = w13 at BK179 BK180 BK181 HB hHeld ⊢
  refine take_ (i := 0) (N := some 11) (v := ?_) (a' := ?_) #[Zt,Zf,Zf,Zf,Zf,Zf,Zf,Zf,Zf] rfl rfl (Xq HT_.out HW_.out (by kernel_rfl)) (fun _ _ _ h => h) (Or.inl ⟨by rfl, ?_⟩) hHeld ?_ ?_
  rotate_left
  ·rintro w' ⟨s0, s1, s2, s3, s4, s5⟩
   go_simp
   with_reducible rfl
  rotate_left
  ·simp only [Act.put, Xa, Xb, Xc, Xf, Xg]
   rfl
  refine take_ (i := 1) (N := some 12) (v := ?_) (a' := ?_) #[Zt,Zt,Zf,Zf,Zf,Zf,Zf,Zf,Zf] rfl rfl (Xq HT_.out HW_.out (by kernel_rfl)) (fun _ _ _ h => h) (Or.inl ⟨by rfl, ?_⟩) hHeld ?_ ?_
  rotate_left
  ·rintro w' ⟨s0, s1, s2, s3, s4, s5⟩
   go_simp
   with_reducible rfl
  rotate_left
  ·simp only [Act.put, Xa, Xb, Xc, Xf, Xg]
   rfl
  refine take_ (i := 3) (N := some 14) (v := ?_) (a' := ?_) #[Zt,Zt,Zf,Zt,Zf,Zf,Zf,Zf,Zf] rfl rfl (Xq HT_.out HW_.out (by kernel_rfl)) (fun _ _ _ h => h) (Or.inl ⟨by rfl, ?_⟩) hHeld ?_ ?_
  rotate_left
  ·rintro w' ⟨s0, s1, s2, s3, s4, s5⟩
   go_simp
   with_reducible rfl
  rotate_left
  ·simp only [Act.put, Xa, Xb, Xc, Xf, Xg]
   rfl
  refine join_ (σ := Nat × Nat) 2 #[Zt,Zt,Zt,Zt,Zt,Zt,Zt,Zf,Zf] (fun s_ => [(13, .agg #[.int .i64 t183, .int .i64 t184, .int .i64 t185]), (15, .agg #[.int .i64 t186, .int .i64 t187, .int .i64 t188]), (7, .pointer (some ⟨s_.1, 0, none⟩)), (8, .pointer (some ⟨s_.2, 0, none⟩))]) (fun s_ w' => (w'.cell? ⟨gb179, 0, none⟩ = some (.int .i64 a0_0) ∧ w'.cell? ⟨gb179, 1, none⟩ = some (.int .i64 a0_1) ∧ w'.cell? ⟨gb179, 2, none⟩ = some (.int .i64 a0_2) ∧ w'.cell? ⟨gb180, 0, none⟩ = some (.int .i64 a1_0) ∧ w'.cell? ⟨gb180, 1, none⟩ = some (.int .i64 a1_1) ∧ w'.cell? ⟨gb180, 2, none⟩ = some (.int .i64 a1_2)) ∧ (w'.heap[gb179]? = some (.cells #[.int .i64 a0_0, .int .i64 a0_1, .int .i64 a0_2] 23 (0, 0))) ∧ (w'.heap[gb180]? = some (.cells #[.int .i64 a1_0, .int .i64 a1_1, .int .i64 a1_2] 23 (0, 0))) ∧ (w'.heap[gb181]? = some (.cells #[.int .i64 a2_0, .int .i64 a2_1] 25 (0, 0))) ∧ (w'.heap[s_.1]? = some (.cells #[.int .i64 0, .int .i64 0, .int .i64 0] 23 (0, 0))) ∧ (w'.heap[s_.2]? = some (.cells #[.int .i64 0, .int .i64 0, .int .i64 0] 23 (0, 0))) ∧ (w.heap.size ≤ s_.1) ∧ (w.heap.size ≤ s_.1) ∧ (gb179 ≠ s_.1) ∧ (s_.1 ≠ gb179) ∧ (gb180 ≠ s_.1) ∧ (s_.1 ≠ gb180) ∧ (gb181 ≠ s_.1) ∧ (s_.1 ≠ gb181) ∧ (s_.2 ≠ s_.1) ∧ (s_.1 ≠ s_.2) ∧ (w.heap.size ≤ s_.2) ∧ (w.heap.size ≤ s_.2) ∧ (gb179 ≠ s_.2) ∧ (s_.2 ≠ gb179) ∧ (gb180 ≠ s_.2) ∧ (s_.2 ≠ gb180) ∧ (gb181 ≠ s_.2) ∧ (s_.2 ≠ gb181) ∧ (Below w.heap.size w w')) ?_ ?_
  rotate_left
  ·intro hJ2_4_5_6
   refine join_ (σ := Nat) 3 #[Zt,Zt,Zt,Zt,Zt,Zt,Zf,Zf,Zf] (fun s_ => [(13, .agg #[.int .i64 t183, .int .i64 t184, .int .i64 t185]), (15, .agg #[.int .i64 t186, .int .i64 t187, .int .i64 t188]), (7, .pointer (some ⟨s_, 0, none⟩))]) (fun s_ w' => (w'.cell? ⟨gb179, 0, none⟩ = some (.int .i64 a0_0) ∧ w'.cell? ⟨gb179, 1, none⟩ = some (.int .i64 a0_1) ∧ w'.cell? ⟨gb179, 2, none⟩ = some (.int .i64 a0_2) ∧ w'.cell? ⟨gb180, 0, none⟩ = some (.int .i64 a1_0) ∧ w'.cell? ⟨gb180, 1, none⟩ = some (.int .i64 a1_1) ∧ w'.cell? ⟨gb180, 2, none⟩ = some (.int .i64 a1_2)) ∧ (w'.heap[gb179]? = some (.cells #[.int .i64 a0_0, .int .i64 a0_1, .int .i64 a0_2] 23 (0, 0))) ∧ (w'.heap[gb180]? = some (.cells #[.int .i64 a1_0, .int .i64 a1_1, .int .i64 a1_2] 23 (0, 0))) ∧ (w'.heap[gb181]? = some (.cells #[.int .i64 a2_0, .int .i64 a2_1] 25 (0, 0))) ∧ (w'.heap[s_]? = some (.cells #[.int .i64 0, .int .i64 0, .int .i64 0] 23 (0, 0))) ∧ (w.heap.size ≤ s_) ∧ (w.heap.size ≤ s_) ∧ (gb179 ≠ s_) ∧ (s_ ≠ gb179) ∧ (gb180 ≠ s_) ∧ (s_ ≠ gb180) ∧ (gb181 ≠ s_) ∧ (s_ ≠ gb181) ∧ (Below w.heap.size w w')) ?_ ?_
   rotate_left
   ·intro hJ2_4_5
    refine join_ (σ := Nat) 3 #[Zt,Zt,Zt,Zt,Zt,Zf,Zt,Zf,Zf] (fun s_ => [(13, .agg #[.int .i64 t183, .int .i64 t184, .int .i64 t185]), (15, .agg #[.int .i64 t186, .int .i64 t187, .int .i64 t188]), (8, .pointer (some ⟨s_, 0, none⟩))]) (fun s_ w' => (w'.cell? ⟨gb179, 0, none⟩ = some (.int .i64 a0_0) ∧ w'.cell? ⟨gb179, 1, none⟩ = some (.int .i64 a0_1) ∧ w'.cell? ⟨gb179, 2, none⟩ = some (.int .i64 a0_2) ∧ w'.cell? ⟨gb180, 0, none⟩ = some (.int .i64 a1_0) ∧ w'.cell? ⟨gb180, 1, none⟩ = some (.int .i64 a1_1) ∧ w'.cell? ⟨gb180, 2, none⟩ = some (.int .i64 a1_2)) ∧ (w'.heap[gb179]? = some (.cells #[.int .i64 a0_0, .int .i64 a0_1, .int .i64 a0_2] 23 (0, 0))) ∧ (w'.heap[gb180]? = some (.cells #[.int .i64 a1_0, .int .i64 a1_1, .int .i64 a1_2] 23 (0, 0))) ∧ (w'.heap[gb181]? = some (.cells #[.int .i64 a2_0, .int .i64 a2_1] 25 (0, 0))) ∧ (w'.heap[s_]? = some (.cells #[.int .i64 0, .int .i64 0, .int .i64 0] 23 (0, 0))) ∧ (w.heap.size ≤ s_) ∧ (w.heap.size ≤ s_) ∧ (gb179 ≠ s_) ∧ (s_ ≠ gb179) ∧ (gb180 ≠ s_) ∧ (s_ ≠ gb180) ∧ (gb181 ≠ s_) ∧ (s_ ≠ gb181) ∧ (Below w.heap.size w w')) ?_ ?_
    rotate_left
    ·intro hJ2_4_6
     refine join_ (σ := Nat × Nat) 3 #[Zt,Zt,Zt,Zt,Zf,Zt,Zt,Zf,Zf] (fun s_ => [(13, .agg #[.int .i64 t183, .int .i64 t184, .int .i64 t185]), (7, .pointer (some ⟨s_.1, 0, none⟩)), (8, .pointer (some ⟨s_.2, 0, none⟩))]) (fun s_ w' => (w'.cell? ⟨gb179, 0, none⟩ = some (.int .i64 a0_0) ∧ w'.cell? ⟨gb179, 1, none⟩ = some (.int .i64 a0_1) ∧ w'.cell? ⟨gb179, 2, none⟩ = some (.int .i64 a0_2) ∧ w'.cell? ⟨gb180, 0, none⟩ = some (.int .i64 a1_0) ∧ w'.cell? ⟨gb180, 1, none⟩ = some (.int .i64 a1_1) ∧ w'.cell? ⟨gb180, 2, none⟩ = some (.int .i64 a1_2)) ∧ (w'.heap[gb179]? = some (.cells #[.int .i64 a0_0, .int .i64 a0_1, .int .i64 a0_2] 23 (0, 0))) ∧ (w'.heap[gb180]? = some (.cells #[.int .i64 a1_0, .int .i64 a1_1, .int .i64 a1_2] 23 (0, 0))) ∧ (w'.heap[gb181]? = some (.cells #[.int .i64 a2_0, .int .i64 a2_1] 25 (0, 0))) ∧ (w'.heap[s_.1]? = some (.cells #[.int .i64 0, .int .i64 0, .int .i64 0] 23 (0, 0))) ∧ (w'.heap[s_.2]? = some (.cells #[.int .i64 0, .int .i64 0, .int .i64 0] 23 (0, 0))) ∧ (w.heap.size ≤ s_.1) ∧ (w.heap.size ≤ s_.1) ∧ (gb179 ≠ s_.1) ∧ (s_.1 ≠ gb179) ∧ (gb180 ≠ s_.1) ∧ (s_.1 ≠ gb180) ∧ (gb181 ≠ s_.1) ∧ (s_.1 ≠ gb181) ∧ (s_.2 ≠ s_.1) ∧ (s_.1 ≠ s_.2) ∧ (w.heap.size ≤ s_.2) ∧ (w.heap.size ≤ s_.2) ∧ (gb179 ≠ s_.2) ∧ (s_.2 ≠ gb179) ∧ (gb180 ≠ s_.2) ∧ (s_.2 ≠ gb180) ∧ (gb181 ≠ s_.2) ∧ (s_.2 ≠ gb181) ∧ (Below w.heap.size w w')) ?_ ?_
     rotate_left
     ·intro hJ2_5_6
      refine join_ (σ := Unit) 4 #[Zt,Zt,Zt,Zt,Zt,Zf,Zf,Zf,Zf] (fun s_ => [(13, .agg #[.int .i64 t183, .int .i64 t184, .int .i64 t185]), (15, .agg #[.int .i64 t186, .int .i64 t187, .int .i64 t188])]) (fun s_ w' => (w'.cell? ⟨gb179, 0, none⟩ = some (.int .i64 a0_0) ∧ w'.cell? ⟨gb179, 1, none⟩ = some (.int .i64 a0_1) ∧ w'.cell? ⟨gb179, 2, none⟩ = some (.int .i64 a0_2) ∧ w'.cell? ⟨gb180, 0, none⟩ = some (.int .i64 a1_0) ∧ w'.cell? ⟨gb180, 1, none⟩ = some (.int .i64 a1_1) ∧ w'.cell? ⟨gb180, 2, none⟩ = some (.int .i64 a1_2)) ∧ (w'.heap[gb179]? = some (.cells #[.int .i64 a0_0, .int .i64 a0_1, .int .i64 a0_2] 23 (0, 0))) ∧ (w'.heap[gb180]? = some (.cells #[.int .i64 a1_0, .int .i64 a1_1, .int .i64 a1_2] 23 (0, 0))) ∧ (w'.heap[gb181]? = some (.cells #[.int .i64 a2_0, .int .i64 a2_1] 25 (0, 0))) ∧ (Below w.heap.size w w')) ?_ ?_
      rotate_left
      ·intro hJ2_4
       refine join_ (σ := Nat) 4 #[Zt,Zt,Zt,Zt,Zf,Zt,Zf,Zf,Zf] (fun s_ => [(13, .agg #[.int .i64 t183, .int .i64 t184, .int .i64 t185]), (7, .pointer (some ⟨s_, 0, none⟩))]) (fun s_ w' => (w'.cell? ⟨gb179, 0, none⟩ = some (.int .i64 a0_0) ∧ w'.cell? ⟨gb179, 1, none⟩ = some (.int .i64 a0_1) ∧ w'.cell? ⟨gb179, 2, none⟩ = some (.int .i64 a0_2) ∧ w'.cell? ⟨gb180, 0, none⟩ = some (.int .i64 a1_0) ∧ w'.cell? ⟨gb180, 1, none⟩ = some (.int .i64 a1_1) ∧ w'.cell? ⟨gb180, 2, none⟩ = some (.int .i64 a1_2)) ∧ (w'.heap[gb179]? = some (.cells #[.int .i64 a0_0, .int .i64 a0_1, .int .i64 a0_2] 23 (0, 0))) ∧ (w'.heap[gb180]? = some (.cells #[.int .i64 a1_0, .int .i64 a1_1, .int .i64 a1_2] 23 (0, 0))) ∧ (w'.heap[gb181]? = some (.cells #[.int .i64 a2_0, .int .i64 a2_1] 25 (0, 0))) ∧ (w'.heap[s_]? = some (.cells #[.int .i64 0, .int .i64 0, .int .i64 0] 23 (0, 0))) ∧ (w.heap.size ≤ s_) ∧ (w.heap.size ≤ s_) ∧ (gb179 ≠ s_) ∧ (s_ ≠ gb179) ∧ (gb180 ≠ s_) ∧ (s_ ≠ gb180) ∧ (gb181 ≠ s_) ∧ (s_ ≠ gb181) ∧ (Below w.heap.size w w')) ?_ ?_
       rotate_left
       ·intro hJ2_5
        refine join_ (σ := Nat) 4 #[Zt,Zt,Zt,Zt,Zf,Zf,Zt,Zf,Zf] (fun s_ => [(13, .agg #[.int .i64 t183, .int .i64 t184, .int .i64 t185]), (8, .pointer (some ⟨s_, 0, none⟩))]) (fun s_ w' => (w'.cell? ⟨gb179, 0, none⟩ = some (.int .i64 a0_0) ∧ w'.cell? ⟨gb179, 1, none⟩ = some (.int .i64 a0_1) ∧ w'.cell? ⟨gb179, 2, none⟩ = some (.int .i64 a0_2) ∧ w'.cell? ⟨gb180, 0, none⟩ = some (.int .i64 a1_0) ∧ w'.cell? ⟨gb180, 1, none⟩ = some (.int .i64 a1_1) ∧ w'.cell? ⟨gb180, 2, none⟩ = some (.int .i64 a1_2)) ∧ (w'.heap[gb179]? = some (.cells #[.int .i64 a0_0, .int .i64 a0_1, .int .i64 a0_2] 23 (0, 0))) ∧ (w'.heap[gb180]? = some (.cells #[.int .i64 a1_0, .int .i64 a1_1, .int .i64 a1_2] 23 (0, 0))) ∧ (w'.heap[gb181]? = some (.cells #[.int .i64 a2_0, .int .i64 a2_1] 25 (0, 0))) ∧ (w'.heap[s_]? = some (.cells #[.int .i64 0, .int .i64 0, .int .i64 0] 23 (0, 0))) ∧ (w.heap.size ≤ s_) ∧ (w.heap.size ≤ s_) ∧ (gb179 ≠ s_) ∧ (s_ ≠ gb179) ∧ (gb180 ≠ s_) ∧ (s_ ≠ gb180) ∧ (gb181 ≠ s_) ∧ (s_ ≠ gb181) ∧ (Below w.heap.size w w')) ?_ ?_
        rotate_left
        ·intro hJ2_6
         refine join_ (σ := Nat × Nat) 4 #[Zt,Zt,Zf,Zt,Zf,Zt,Zt,Zf,Zf] (fun s_ => [(7, .pointer (some ⟨s_.1, 0, none⟩)), (8, .pointer (some ⟨s_.2, 0, none⟩))]) (fun s_ w' => (w'.cell? ⟨gb179, 0, none⟩ = some (.int .i64 a0_0) ∧ w'.cell? ⟨gb179, 1, none⟩ = some (.int .i64 a0_1) ∧ w'.cell? ⟨gb179, 2, none⟩ = some (.int .i64 a0_2) ∧ w'.cell? ⟨gb180, 0, none⟩ = some (.int .i64 a1_0) ∧ w'.cell? ⟨gb180, 1, none⟩ = some (.int .i64 a1_1) ∧ w'.cell? ⟨gb180, 2, none⟩ = some (.int .i64 a1_2)) ∧ (w'.heap[gb179]? = some (.cells #[.int .i64 a0_0, .int .i64 a0_1, .int .i64 a0_2] 23 (0, 0))) ∧ (w'.heap[gb180]? = some (.cells #[.int .i64 a1_0, .int .i64 a1_1, .int .i64 a1_2] 23 (0, 0))) ∧ (w'.heap[gb181]? = some (.cells #[.int .i64 a2_0, .int .i64 a2_1] 25 (0, 0))) ∧ (w'.heap[s_.1]? = some (.cells #[.int .i64 0, .int .i64 0, .int .i64 0] 23 (0, 0))) ∧ (w'.heap[s_.2]? = some (.cells #[.int .i64 0, .int .i64 0, .int .i64 0] 23 (0, 0))) ∧ (w.heap.size ≤ s_.1) ∧ (w.heap.size ≤ s_.1) ∧ (gb179 ≠ s_.1) ∧ (s_.1 ≠ gb179) ∧ (gb180 ≠ s_.1) ∧ (s_.1 ≠ gb180) ∧ (gb181 ≠ s_.1) ∧ (s_.1 ≠ gb181) ∧ (s_.2 ≠ s_.1) ∧ (s_.1 ≠ s_.2) ∧ (w.heap.size ≤ s_.2) ∧ (w.heap.size ≤ s_.2) ∧ (gb179 ≠ s_.2) ∧ (s_.2 ≠ gb179) ∧ (gb180 ≠ s_.2) ∧ (s_.2 ≠ gb180) ∧ (gb181 ≠ s_.2) ∧ (s_.2 ≠ gb181) ∧ (Below w.heap.size w w')) ?_ ?_
         rotate_left
         ·intro hJ5_6
          refine join_ (σ := Unit) 5 #[Zt,Zt,Zt,Zt,Zf,Zf,Zf,Zf,Zf] (fun s_ => [(13, .agg #[.int .i64 t183, .int .i64 t184, .int .i64 t185])]) (fun s_ w' => (w'.cell? ⟨gb179, 0, none⟩ = some (.int .i64 a0_0) ∧ w'.cell? ⟨gb179, 1, none⟩ = some (.int .i64 a0_1) ∧ w'.cell? ⟨gb179, 2, none⟩ = some (.int .i64 a0_2) ∧ w'.cell? ⟨gb180, 0, none⟩ = some (.int .i64 a1_0) ∧ w'.cell? ⟨gb180, 1, none⟩ = some (.int .i64 a1_1) ∧ w'.cell? ⟨gb180, 2, none⟩ = some (.int .i64 a1_2)) ∧ (w'.heap[gb179]? = some (.cells #[.int .i64 a0_0, .int .i64 a0_1, .int .i64 a0_2] 23 (0, 0))) ∧ (w'.heap[gb180]? = some (.cells #[.int .i64 a1_0, .int .i64 a1_1, .int .i64 a1_2] 23 (0, 0))) ∧ (w'.heap[gb181]? = some (.cells #[.int .i64 a2_0, .int .i64 a2_1] 25 (0, 0))) ∧ (Below w.heap.size w w')) ?_ ?_
          rotate_left
          ·intro hJ2
           refine join_ (σ := Nat) 5 #[Zt,Zt,Zf,Zt,Zf,Zt,Zf,Zf,Zf] (fun s_ => [(7, .pointer (some ⟨s_, 0, none⟩))]) (fun s_ w' => (w'.cell? ⟨gb179, 0, none⟩ = some (.int .i64 a0_0) ∧ w'.cell? ⟨gb179, 1, none⟩ = some (.int .i64 a0_1) ∧ w'.cell? ⟨gb179, 2, none⟩ = some (.int .i64 a0_2) ∧ w'.cell? ⟨gb180, 0, none⟩ = some (.int .i64 a1_0) ∧ w'.cell? ⟨gb180, 1, none⟩ = some (.int .i64 a1_1) ∧ w'.cell? ⟨gb180, 2, none⟩ = some (.int .i64 a1_2)) ∧ (w'.heap[gb179]? = some (.cells #[.int .i64 a0_0, .int .i64 a0_1, .int .i64 a0_2] 23 (0, 0))) ∧ (w'.heap[gb180]? = some (.cells #[.int .i64 a1_0, .int .i64 a1_1, .int .i64 a1_2] 23 (0, 0))) ∧ (w'.heap[gb181]? = some (.cells #[.int .i64 a2_0, .int .i64 a2_1] 25 (0, 0))) ∧ (w'.heap[s_]? = some (.cells #[.int .i64 0, .int .i64 0, .int .i64 0] 23 (0, 0))) ∧ (w.heap.size ≤ s_) ∧ (w.heap.size ≤ s_) ∧ (gb179 ≠ s_) ∧ (s_ ≠ gb179) ∧ (gb180 ≠ s_) ∧ (s_ ≠ gb180) ∧ (gb181 ≠ s_) ∧ (s_ ≠ gb181) ∧ (Below w.heap.size w w')) ?_ ?_
           rotate_left
           ·intro hJ5
            refine join_ (σ := Nat) 5 #[Zt,Zt,Zf,Zt,Zf,Zf,Zt,Zf,Zf] (fun s_ => [(8, .pointer (some ⟨s_, 0, none⟩))]) (fun s_ w' => (w'.cell? ⟨gb179, 0, none⟩ = some (.int .i64 a0_0) ∧ w'.cell? ⟨gb179, 1, none⟩ = some (.int .i64 a0_1) ∧ w'.cell? ⟨gb179, 2, none⟩ = some (.int .i64 a0_2) ∧ w'.cell? ⟨gb180, 0, none⟩ = some (.int .i64 a1_0) ∧ w'.cell? ⟨gb180, 1, none⟩ = some (.int .i64 a1_1) ∧ w'.cell? ⟨gb180, 2, none⟩ = some (.int .i64 a1_2)) ∧ (w'.heap[gb179]? = some (.cells #[.int .i64 a0_0, .int .i64 a0_1, .int .i64 a0_2] 23 (0, 0))) ∧ (w'.heap[gb180]? = some (.cells #[.int .i64 a1_0, .int .i64 a1_1, .int .i64 a1_2] 23 (0, 0))) ∧ (w'.heap[gb181]? = some (.cells #[.int .i64 a2_0, .int .i64 a2_1] 25 (0, 0))) ∧ (w'.heap[s_]? = some (.cells #[.int .i64 0, .int .i64 0, .int .i64 0] 23 (0, 0))) ∧ (w.heap.size ≤ s_) ∧ (w.heap.size ≤ s_) ∧ (gb179 ≠ s_) ∧ (s_ ≠ gb179) ∧ (gb180 ≠ s_) ∧ (s_ ≠ gb180) ∧ (gb181 ≠ s_) ∧ (s_ ≠ gb181) ∧ (Below w.heap.size w w')) ?_ ?_
            rotate_left
            ·intro hJ6
             refine three_ (i := 2) (j := 5) (k := 6) (Ni := some 13) (Nj := some 7) (Nk := some 8) #[Zt,Zt,Zt,Zt,Zf,Zf,Zf,Zf,Zf] #[Zt,Zt,Zf,Zt,Zf,Zt,Zf,Zf,Zf] #[Zt,Zt,Zf,Zt,Zf,Zf,Zt,Zf,Zf] rfl rfl rfl rfl rfl rfl (three_of HT_.out (by kernel_rfl)) (by decide) (by decide) (by decide) (fun K hK => ?_) (fun K hK => ?_) (fun K hK => ?_)
             ·skip
              refine goes_ Try.func53 (by kernel_rfl) rfl #[.agg #[.int .i64 a0_0, .int .i64 a0_1, .int .i64 a0_2], .agg #[.int .i64 a1_0, .int .i64 a1_1, .int .i64 a1_2]] (by rfl) rfl rfl (by (try simp only [List.map_toArray, List.map_cons, List.map_nil]); first | done | rfl | (simp only [List.length_drop, List.length_take]; rfl)) ?_
              with_reducible refine (place_Then.calls k a0_0 a0_1 a0_2 a1_0 a1_1 a1_2 t183 t184 t185 _ A6.out).mono ?_
              rintro e w14 ⟨rfl, hb⟩
              refine ⟨_, rfl, ?_⟩
              have n0_ := Za (Xe (g := gb179) (o := .cells #[.int .i64 a0_0, .int .i64 a0_1, .int .i64 a0_2] 23 (0, 0)) (bb_6 BK179.out) hb)
              have n1_ := Za (Xe (g := gb180) (o := .cells #[.int .i64 a1_0, .int .i64 a1_1, .int .i64 a1_2] 23 (0, 0)) (bb_6 BK180.out) hb)
              have n2_ := Za (Xe (g := gb181) (o := .cells #[.int .i64 a2_0, .int .i64 a2_1] 25 (0, 0)) (bb_6 BK181.out) hb)
              have n3_ := Za (Xo (hb_6 HB.out) hb)
              clear BK179
              clear BK180
              clear BK181
              clear HB
              have BK179 := n0_
              have BK180 := n1_
              have BK181 := n2_
              have HB := n3_
              clear n0_ n1_ n2_ n3_
              (try clear hb)
              (try clear hb2)
              (try clear hk)
              (try clear hi)
              refine hK.out _ _ ⟨(Xd BK179.out 0).trans rfl, (Xd BK179.out 1).trans rfl, (Xd BK179.out 2).trans rfl, (Xd BK180.out 0).trans rfl, (Xd BK180.out 1).trans rfl, (Xd BK180.out 2).trans rfl⟩ (fun hHeld => ?_)
              clear hK K
              refine Xr (a' := ?_) ?_ ?_
              rotate_left
              ·show Act.put _ (some 13) _ = _
               simp only [Act.put, Xa, Xb, Xc, Xf, Xg]
               rfl
              exact Xr (by first | (simp only [Xu, Act.put, Xa, Xb, Xc]; done) | (simp only [Xu, Act.put, Xa, Xb, Xc]; rfl)) (hJ2 () _ ⟨hHeld, (bb_6 BK179.out), (bb_6 BK180.out), (bb_6 BK181.out), (hb_6 HB.out)⟩)
             ·skip
              refine box_step ?hg (N := 7) ?hd (cs := #[.int .i64 0, .int .i64 0, .int .i64 0]) (t := 23) ?hr ?_; (case hd => rfl); (case hg => rfl); (case hr => first | (go_simp; done) | (go_simp; rfl))
              intro gb189 hg w14 hbox hb
              have n0_ := Za (Xe (g := gb179) (o := .cells #[.int .i64 a0_0, .int .i64 a0_1, .int .i64 a0_2] 23 (0, 0)) (bb_6 BK179.out) hb)
              have n1_ := Za (Xe (g := gb180) (o := .cells #[.int .i64 a1_0, .int .i64 a1_1, .int .i64 a1_2] 23 (0, 0)) (bb_6 BK180.out) hb)
              have n2_ := Za (Xe (g := gb181) (o := .cells #[.int .i64 a2_0, .int .i64 a2_1] 25 (0, 0)) (bb_6 BK181.out) hb)
              have n3_ := Za (Xo (hb_6 HB.out) hb)
              have n4_ := Za (hbox)
              have n5_ := Za ((by rw [hg]; exact (Xs (hb_6 HB.out)) : w.heap.size ≤ gb189))
              have n6_ := Za ((by rw [hg]; exact (Xs (hb_6 HB.out)) : w.heap.size ≤ gb189))
              have n7_ := Za ((by rw [hg]; exact Nat.ne_of_lt (Xn (g := gb179) (o := .cells #[.int .i64 a0_0, .int .i64 a0_1, .int .i64 a0_2] 23 (0, 0)) (bb_6 BK179.out)) : gb179 ≠ gb189))
              have n8_ := Za ((by rw [hg]; exact Nat.ne_of_gt (Xn (g := gb179) (o := .cells #[.int .i64 a0_0, .int .i64 a0_1, .int .i64 a0_2] 23 (0, 0)) (bb_6 BK179.out)) : gb189 ≠ gb179))
              have n9_ := Za ((by rw [hg]; exact Nat.ne_of_lt (Xn (g := gb180) (o := .cells #[.int .i64 a1_0, .int .i64 a1_1, .int .i64 a1_2] 23 (0, 0)) (bb_6 BK180.out)) : gb180 ≠ gb189))
              have n10_ := Za ((by rw [hg]; exact Nat.ne_of_gt (Xn (g := gb180) (o := .cells #[.int .i64 a1_0, .int .i64 a1_1, .int .i64 a1_2] 23 (0, 0)) (bb_6 BK180.out)) : gb189 ≠ gb180))
              have n11_ := Za ((by rw [hg]; exact Nat.ne_of_lt (Xn (g := gb181) (o := .cells #[.int .i64 a2_0, .int .i64 a2_1] 25 (0, 0)) (bb_6 BK181.out)) : gb181 ≠ gb189))
              have n12_ := Za ((by rw [hg]; exact Nat.ne_of_gt (Xn (g := gb181) (o := .cells #[.int .i64 a2_0, .int .i64 a2_1] 25 (0, 0)) (bb_6 BK181.out)) : gb189 ≠ gb181))
              clear BK179
              clear BK180
              clear BK181
              clear HB
              have BK179 := n0_
              have BK180 := n1_
              have BK181 := n2_
              have HB := n3_
              have BK189 := n4_
              have GW189 := n5_
              have GE189 := n6_
              have NB179_189 := n7_
              have NB189_179 := n8_
              have NB180_189 := n9_
              have NB189_180 := n10_
              have NB181_189 := n11_
              have NB189_181 := n12_
              clear n0_ n1_ n2_ n3_ n4_ n5_ n6_ n7_ n8_ n9_ n10_ n11_ n12_
              clear hb hbox hg
              refine hK.out _ _ ⟨(Xd BK179.out 0).trans rfl, (Xd BK179.out 1).trans rfl, (Xd BK179.out 2).trans rfl, (Xd BK180.out 0).trans rfl, (Xd BK180.out 1).trans rfl, (Xd BK180.out 2).trans rfl⟩ (fun hHeld => ?_)
              clear hK K
              refine Xr (a' := ?_) ?_ ?_
              rotate_left
              ·show Act.put _ (some 7) _ = _
               simp only [Act.put, Xa, Xb, Xc, Xf, Xg]
               rfl
              exact Xr (by first | (simp only [Xu, Act.put, Xa, Xb, Xc]; done) | (simp only [Xu, Act.put, Xa, Xb, Xc]; rfl)) (hJ5 (gb189) _ ⟨hHeld, (bb_6 BK179.out), (bb_6 BK180.out), (bb_6 BK181.out), (bb_6 BK189.out), GW189.out, GE189.out, NB179_189.out, NB189_179.out, NB180_189.out, NB189_180.out, NB181_189.out, NB189_181.out, (hb_6 HB.out)⟩)
             ·skip
              refine box_step ?hg (N := 8) ?hd (cs := #[.int .i64 0, .int .i64 0, .int .i64 0]) (t := 23) ?hr ?_; (case hd => rfl); (case hg => rfl); (case hr => first | (go_simp; done) | (go_simp; rfl))
              intro gb190 hg w14 hbox hb
              have n0_ := Za (Xe (g := gb179) (o := .cells #[.int .i64 a0_0, .int .i64 a0_1, .int .i64 a0_2] 23 (0, 0)) (bb_6 BK179.out) hb)
              have n1_ := Za (Xe (g := gb180) (o := .cells #[.int .i64 a1_0, .int .i64 a1_1, .int .i64 a1_2] 23 (0, 0)) (bb_6 BK180.out) hb)
              have n2_ := Za (Xe (g := gb181) (o := .cells #[.int .i64 a2_0, .int .i64 a2_1] 25 (0, 0)) (bb_6 BK181.out) hb)
              have n3_ := Za (Xo (hb_6 HB.out) hb)
              have n4_ := Za (hbox)
              have n5_ := Za ((by rw [hg]; exact (Xs (hb_6 HB.out)) : w.heap.size ≤ gb190))
              have n6_ := Za ((by rw [hg]; exact (Xs (hb_6 HB.out)) : w.heap.size ≤ gb190))
              have n7_ := Za ((by rw [hg]; exact Nat.ne_of_lt (Xn (g := gb179) (o := .cells #[.int .i64 a0_0, .int .i64 a0_1, .int .i64 a0_2] 23 (0, 0)) (bb_6 BK179.out)) : gb179 ≠ gb190))
              have n8_ := Za ((by rw [hg]; exact Nat.ne_of_gt (Xn (g := gb179) (o := .cells #[.int .i64 a0_0, .int .i64 a0_1, .int .i64 a0_2] 23 (0, 0)) (bb_6 BK179.out)) : gb190 ≠ gb179))
              have n9_ := Za ((by rw [hg]; exact Nat.ne_of_lt (Xn (g := gb180) (o := .cells #[.int .i64 a1_0, .int .i64 a1_1, .int .i64 a1_2] 23 (0, 0)) (bb_6 BK180.out)) : gb180 ≠ gb190))
              have n10_ := Za ((by rw [hg]; exact Nat.ne_of_gt (Xn (g := gb180) (o := .cells #[.int .i64 a1_0, .int .i64 a1_1, .int .i64 a1_2] 23 (0, 0)) (bb_6 BK180.out)) : gb190 ≠ gb180))
              have n11_ := Za ((by rw [hg]; exact Nat.ne_of_lt (Xn (g := gb181) (o := .cells #[.int .i64 a2_0, .int .i64 a2_1] 25 (0, 0)) (bb_6 BK181.out)) : gb181 ≠ gb190))
              have n12_ := Za ((by rw [hg]; exact Nat.ne_of_gt (Xn (g := gb181) (o := .cells #[.int .i64 a2_0, .int .i64 a2_1] 25 (0, 0)) (bb_6 BK181.out)) : gb190 ≠ gb181))
              clear BK179
              clear BK180
              clear BK181
              clear HB
              have BK179 := n0_
              have BK180 := n1_
              have BK181 := n2_
              have HB := n3_
              have BK190 := n4_
              have GW190 := n5_
              have GE190 := n6_
              have NB179_190 := n7_
              have NB190_179 := n8_
              have NB180_190 := n9_
              have NB190_180 := n10_
              have NB181_190 := n11_
              have NB190_181 := n12_
              clear n0_ n1_ n2_ n3_ n4_ n5_ n6_ n7_ n8_ n9_ n10_ n11_ n12_
              clear hb hbox hg
              refine hK.out _ _ ⟨(Xd BK179.out 0).trans rfl, (Xd BK179.out 1).trans rfl, (Xd BK179.out 2).trans rfl, (Xd BK180.out 0).trans rfl, (Xd BK180.out 1).trans rfl, (Xd BK180.out 2).trans rfl⟩ (fun hHeld => ?_)
              clear hK K
              refine Xr (a' := ?_) ?_ ?_
              rotate_left
              ·show Act.put _ (some 8) _ = _
               simp only [Act.put, Xa, Xb, Xc, Xf, Xg]
               rfl
              exact Xr (by first | (simp only [Xu, Act.put, Xa, Xb, Xc]; done) | (simp only [Xu, Act.put, Xa, Xb, Xc]; rfl)) (hJ6 (gb190) _ ⟨hHeld, (bb_6 BK179.out), (bb_6 BK180.out), (bb_6 BK181.out), (bb_6 BK190.out), GW190.out, GE190.out, NB179_190.out, NB190_179.out, NB180_190.out, NB190_180.out, NB181_190.out, NB190_181.out, (hb_6 HB.out)⟩)
            ·skip
             rintro gb190 w15 ⟨hS_, h0_, h1_, h2_, h3_, h4_, h5_, h6_, h7_, h8_, h9_, h10_, h11_, h12_⟩
             have n0_ : Xh (w15.heap[gb179]? = some (.cells #[.int .i64 a0_0, .int .i64 a0_1, .int .i64 a0_2] 23 (0, 0))) := ⟨h0_⟩
             have n1_ : Xh (w15.heap[gb180]? = some (.cells #[.int .i64 a1_0, .int .i64 a1_1, .int .i64 a1_2] 23 (0, 0))) := ⟨h1_⟩
             have n2_ : Xh (w15.heap[gb181]? = some (.cells #[.int .i64 a2_0, .int .i64 a2_1] 25 (0, 0))) := ⟨h2_⟩
             have n3_ : Xh (w15.heap[gb190]? = some (.cells #[.int .i64 0, .int .i64 0, .int .i64 0] 23 (0, 0))) := ⟨h3_⟩
             have n4_ : Xh (w.heap.size ≤ gb190) := ⟨h4_⟩
             have n5_ : Xh (w.heap.size ≤ gb190) := ⟨h5_⟩
             have n6_ : Xh (gb179 ≠ gb190) := ⟨h6_⟩
             have n7_ : Xh (gb190 ≠ gb179) := ⟨h7_⟩
             have n8_ : Xh (gb180 ≠ gb190) := ⟨h8_⟩
             have n9_ : Xh (gb190 ≠ gb180) := ⟨h9_⟩
             have n10_ : Xh (gb181 ≠ gb190) := ⟨h10_⟩
             have n11_ : Xh (gb190 ≠ gb181) := ⟨h11_⟩
             have n12_ : Xh (Below w.heap.size w w15) := ⟨h12_⟩
             clear BK179
             clear BK180
             clear BK181
             clear HB
             clear h0_ h1_ h2_ h3_ h4_ h5_ h6_ h7_ h8_ h9_ h10_ h11_ h12_
             have BK179 := n0_
             have BK180 := n1_
             have BK181 := n2_
             have BK190 := n3_
             have GW190 := n4_
             have GE190 := n5_
             have NB179_190 := n6_
             have NB190_179 := n7_
             have NB180_190 := n8_
             have NB190_180 := n9_
             have NB181_190 := n10_
             have NB190_181 := n11_
             have HB := n12_
             clear n0_ n1_ n2_ n3_ n4_ n5_ n6_ n7_ n8_ n9_ n10_ n11_ n12_
             have hHeld : w15.cell? ⟨gb179, 0, none⟩ = some (.int .i64 a0_0) ∧ w15.cell? ⟨gb179, 1, none⟩ = some (.int .i64 a0_1) ∧ w15.cell? ⟨gb179, 2, none⟩ = some (.int .i64 a0_2) ∧ w15.cell? ⟨gb180, 0, none⟩ = some (.int .i64 a1_0) ∧ w15.cell? ⟨gb180, 1, none⟩ = some (.int .i64 a1_1) ∧ w15.cell? ⟨gb180, 2, none⟩ = some (.int .i64 a1_2) := hS_
             refine Xr (a' := ?_) ?_ ?_
             rotate_left
             ·simp only [Xu, Act.put, Xa, Xb, Xc]
              rfl
             refine two_ (i := 2) (j := 5) (Ni := some 13) (Nj := some 7) #[Zt,Zt,Zt,Zt,Zf,Zf,Zt,Zf,Zf] #[Zt,Zt,Zf,Zt,Zf,Zt,Zt,Zf,Zf] rfl rfl rfl rfl (two_of HT_.out (by kernel_rfl)) (by decide) (by decide) (fun K hK => ?_) (fun K hK => ?_)
             ·skip
              refine goes_ Try.func53 (by kernel_rfl) rfl #[.agg #[.int .i64 a0_0, .int .i64 a0_1, .int .i64 a0_2], .agg #[.int .i64 a1_0, .int .i64 a1_1, .int .i64 a1_2]] (by rfl) rfl rfl (by (try simp only [List.map_toArray, List.map_cons, List.map_nil]); first | done | rfl | (simp only [List.length_drop, List.length_take]; rfl)) ?_
              with_reducible refine (place_Then.calls k a0_0 a0_1 a0_2 a1_0 a1_1 a1_2 t183 t184 t185 _ A6.out).mono ?_
              rintro e w16 ⟨rfl, hb⟩
              refine ⟨_, rfl, ?_⟩
              have n0_ := Za (Xe (g := gb179) (o := .cells #[.int .i64 a0_0, .int .i64 a0_1, .int .i64 a0_2] 23 (0, 0)) (bb_6 BK179.out) hb)
              have n1_ := Za (Xe (g := gb180) (o := .cells #[.int .i64 a1_0, .int .i64 a1_1, .int .i64 a1_2] 23 (0, 0)) (bb_6 BK180.out) hb)
              have n2_ := Za (Xe (g := gb181) (o := .cells #[.int .i64 a2_0, .int .i64 a2_1] 25 (0, 0)) (bb_6 BK181.out) hb)
              have n3_ := Za (Xe (g := gb190) (o := .cells #[.int .i64 0, .int .i64 0, .int .i64 0] 23 (0, 0)) (bb_6 BK190.out) hb)
              have n4_ := Za (Xo (hb_6 HB.out) hb)
              clear BK179
              clear BK180
              clear BK181
              clear BK190
              clear HB
              have BK179 := n0_
              have BK180 := n1_
              have BK181 := n2_
              have BK190 := n3_
              have HB := n4_
              clear n0_ n1_ n2_ n3_ n4_
              (try clear hb)
              (try clear hb2)
              (try clear hk)
              (try clear hi)
              refine hK.out _ _ ⟨(Xd BK179.out 0).trans rfl, (Xd BK179.out 1).trans rfl, (Xd BK179.out 2).trans rfl, (Xd BK180.out 0).trans rfl, (Xd BK180.out 1).trans rfl, (Xd BK180.out 2).trans rfl⟩ (fun hHeld => ?_)
              clear hK K
              refine Xr (a' := ?_) ?_ ?_
              rotate_left
              ·show Act.put _ (some 13) _ = _
               simp only [Act.put, Xa, Xb, Xc, Xf, Xg]
               rfl
              exact Xr (by first | (simp only [Xu, Act.put, Xa, Xb, Xc]; done) | (simp only [Xu, Act.put, Xa, Xb, Xc]; rfl)) (hJ2_6 (gb190) _ ⟨hHeld, (bb_6 BK179.out), (bb_6 BK180.out), (bb_6 BK181.out), (bb_6 BK190.out), GW190.out, GE190.out, NB179_190.out, NB190_179.out, NB180_190.out, NB190_180.out, NB181_190.out, NB190_181.out, (hb_6 HB.out)⟩)
             ·skip
              refine box_step ?hg (N := 7) ?hd (cs := #[.int .i64 0, .int .i64 0, .int .i64 0]) (t := 23) ?hr ?_; (case hd => rfl); (case hg => rfl); (case hr => first | (go_simp; done) | (go_simp; rfl))
              intro gb189 hg w16 hbox hb
              have n0_ := Za (Xe (g := gb179) (o := .cells #[.int .i64 a0_0, .int .i64 a0_1, .int .i64 a0_2] 23 (0, 0)) (bb_6 BK179.out) hb)
              have n1_ := Za (Xe (g := gb180) (o := .cells #[.int .i64 a1_0, .int .i64 a1_1, .int .i64 a1_2] 23 (0, 0)) (bb_6 BK180.out) hb)
              have n2_ := Za (Xe (g := gb181) (o := .cells #[.int .i64 a2_0, .int .i64 a2_1] 25 (0, 0)) (bb_6 BK181.out) hb)
              have n3_ := Za (Xe (g := gb190) (o := .cells #[.int .i64 0, .int .i64 0, .int .i64 0] 23 (0, 0)) (bb_6 BK190.out) hb)
              have n4_ := Za (Xo (hb_6 HB.out) hb)
              have n5_ := Za (hbox)
              have n6_ := Za ((by rw [hg]; exact (Xs (hb_6 HB.out)) : w.heap.size ≤ gb189))
              have n7_ := Za ((by rw [hg]; exact (Xs (hb_6 HB.out)) : w.heap.size ≤ gb189))
              have n8_ := Za ((by rw [hg]; exact Nat.ne_of_lt (Xn (g := gb179) (o := .cells #[.int .i64 a0_0, .int .i64 a0_1, .int .i64 a0_2] 23 (0, 0)) (bb_6 BK179.out)) : gb179 ≠ gb189))
              have n9_ := Za ((by rw [hg]; exact Nat.ne_of_gt (Xn (g := gb179) (o := .cells #[.int .i64 a0_0, .int .i64 a0_1, .int .i64 a0_2] 23 (0, 0)) (bb_6 BK179.out)) : gb189 ≠ gb179))
              have n10_ := Za ((by rw [hg]; exact Nat.ne_of_lt (Xn (g := gb180) (o := .cells #[.int .i64 a1_0, .int .i64 a1_1, .int .i64 a1_2] 23 (0, 0)) (bb_6 BK180.out)) : gb180 ≠ gb189))
              have n11_ := Za ((by rw [hg]; exact Nat.ne_of_gt (Xn (g := gb180) (o := .cells #[.int .i64 a1_0, .int .i64 a1_1, .int .i64 a1_2] 23 (0, 0)) (bb_6 BK180.out)) : gb189 ≠ gb180))
              have n12_ := Za ((by rw [hg]; exact Nat.ne_of_lt (Xn (g := gb181) (o := .cells #[.int .i64 a2_0, .int .i64 a2_1] 25 (0, 0)) (bb_6 BK181.out)) : gb181 ≠ gb189))
              have n13_ := Za ((by rw [hg]; exact Nat.ne_of_gt (Xn (g := gb181) (o := .cells #[.int .i64 a2_0, .int .i64 a2_1] 25 (0, 0)) (bb_6 BK181.out)) : gb189 ≠ gb181))
              have n14_ := Za ((by rw [hg]; exact Nat.ne_of_lt (Xn (g := gb190) (o := .cells #[.int .i64 0, .int .i64 0, .int .i64 0] 23 (0, 0)) (bb_6 BK190.out)) : gb190 ≠ gb189))
              have n15_ := Za ((by rw [hg]; exact Nat.ne_of_gt (Xn (g := gb190) (o := .cells #[.int .i64 0, .int .i64 0, .int .i64 0] 23 (0, 0)) (bb_6 BK190.out)) : gb189 ≠ gb190))
              clear BK179
              clear BK180
              clear BK181
              clear BK190
              clear HB
              have BK179 := n0_
              have BK180 := n1_
              have BK181 := n2_
              have BK190 := n3_
              have HB := n4_
              have BK189 := n5_
              have GW189 := n6_
              have GE189 := n7_
              have NB179_189 := n8_
              have NB189_179 := n9_
              have NB180_189 := n10_
              have NB189_180 := n11_
              have NB181_189 := n12_
              have NB189_181 := n13_
              have NB190_189 := n14_
              have NB189_190 := n15_
              clear n0_ n1_ n2_ n3_ n4_ n5_ n6_ n7_ n8_ n9_ n10_ n11_ n12_ n13_ n14_ n15_
              clear hb hbox hg
              refine hK.out _ _ ⟨(Xd BK179.out 0).trans rfl, (Xd BK179.out 1).trans rfl, (Xd BK179.out 2).trans rfl, (Xd BK180.out 0).trans rfl, (Xd BK180.out 1).trans rfl, (Xd BK180.out 2).trans rfl⟩ (fun hHeld => ?_)
              clear hK K
              refine Xr (a' := ?_) ?_ ?_
              rotate_left
              ·show Act.put _ (some 7) _ = _
               simp only [Act.put, Xa, Xb, Xc, Xf, Xg]
               rfl
              exact Xr (by first | (simp only [Xu, Act.put, Xa, Xb, Xc]; done) | (simp only [Xu, Act.put, Xa, Xb, Xc]; rfl)) (hJ5_6 (gb189, gb190) _ ⟨hHeld, (bb_6 BK179.out), (bb_6 BK180.out), (bb_6 BK181.out), (bb_6 BK189.out), (bb_6 BK190.out), GW189.out, GE189.out, NB179_189.out, NB189_179.out, NB180_189.out, NB189_180.out, NB181_189.out, NB189_181.out, NB190_189.out, NB189_190.out, GW190.out, GE190.out, NB179_190.out, NB190_179.out, NB180_190.out, NB190_180.out, NB181_190.out, NB190_181.out, (hb_6 HB.out)⟩)
           ·skip
            rintro gb189 w15 ⟨hS_, h0_, h1_, h2_, h3_, h4_, h5_, h6_, h7_, h8_, h9_, h10_, h11_, h12_⟩
            have n0_ : Xh (w15.heap[gb179]? = some (.cells #[.int .i64 a0_0, .int .i64 a0_1, .int .i64 a0_2] 23 (0, 0))) := ⟨h0_⟩
            have n1_ : Xh (w15.heap[gb180]? = some (.cells #[.int .i64 a1_0, .int .i64 a1_1, .int .i64 a1_2] 23 (0, 0))) := ⟨h1_⟩
            have n2_ : Xh (w15.heap[gb181]? = some (.cells #[.int .i64 a2_0, .int .i64 a2_1] 25 (0, 0))) := ⟨h2_⟩
            have n3_ : Xh (w15.heap[gb189]? = some (.cells #[.int .i64 0, .int .i64 0, .int .i64 0] 23 (0, 0))) := ⟨h3_⟩
            have n4_ : Xh (w.heap.size ≤ gb189) := ⟨h4_⟩
            have n5_ : Xh (w.heap.size ≤ gb189) := ⟨h5_⟩
            have n6_ : Xh (gb179 ≠ gb189) := ⟨h6_⟩
            have n7_ : Xh (gb189 ≠ gb179) := ⟨h7_⟩
            have n8_ : Xh (gb180 ≠ gb189) := ⟨h8_⟩
            have n9_ : Xh (gb189 ≠ gb180) := ⟨h9_⟩
            have n10_ : Xh (gb181 ≠ gb189) := ⟨h10_⟩
            have n11_ : Xh (gb189 ≠ gb181) := ⟨h11_⟩
            have n12_ : Xh (Below w.heap.size w w15) := ⟨h12_⟩
            clear BK179
            clear BK180
            clear BK181
            clear HB
            clear h0_ h1_ h2_ h3_ h4_ h5_ h6_ h7_ h8_ h9_ h10_ h11_ h12_
            have BK179 := n0_
            have BK180 := n1_
            have BK181 := n2_
            have BK189 := n3_
            have GW189 := n4_
            have GE189 := n5_
            have NB179_189 := n6_
            have NB189_179 := n7_
            have NB180_189 := n8_
            have NB189_180 := n9_
            have NB181_189 := n10_
            have NB189_181 := n11_
            have HB := n12_
            clear n0_ n1_ n2_ n3_ n4_ n5_ n6_ n7_ n8_ n9_ n10_ n11_ n12_
            have hHeld : w15.cell? ⟨gb179, 0, none⟩ = some (.int .i64 a0_0) ∧ w15.cell? ⟨gb179, 1, none⟩ = some (.int .i64 a0_1) ∧ w15.cell? ⟨gb179, 2, none⟩ = some (.int .i64 a0_2) ∧ w15.cell? ⟨gb180, 0, none⟩ = some (.int .i64 a1_0) ∧ w15.cell? ⟨gb180, 1, none⟩ = some (.int .i64 a1_1) ∧ w15.cell? ⟨gb180, 2, none⟩ = some (.int .i64 a1_2) := hS_
            refine Xr (a' := ?_) ?_ ?_
            rotate_left
            ·simp only [Xu, Act.put, Xa, Xb, Xc]
             rfl
            refine two_ (i := 2) (j := 6) (Ni := some 13) (Nj := some 8) #[Zt,Zt,Zt,Zt,Zf,Zt,Zf,Zf,Zf] #[Zt,Zt,Zf,Zt,Zf,Zt,Zt,Zf,Zf] rfl rfl rfl rfl (two_of HT_.out (by kernel_rfl)) (by decide) (by decide) (fun K hK => ?_) (fun K hK => ?_)
            ·skip
             refine goes_ Try.func53 (by kernel_rfl) rfl #[.agg #[.int .i64 a0_0, .int .i64 a0_1, .int .i64 a0_2], .agg #[.int .i64 a1_0, .int .i64 a1_1, .int .i64 a1_2]] (by rfl) rfl rfl (by (try simp only [List.map_toArray, List.map_cons, List.map_nil]); first | done | rfl | (simp only [List.length_drop, List.length_take]; rfl)) ?_
             with_reducible refine (place_Then.calls k a0_0 a0_1 a0_2 a1_0 a1_1 a1_2 t183 t184 t185 _ A6.out).mono ?_
             rintro e w16 ⟨rfl, hb⟩
             refine ⟨_, rfl, ?_⟩
             have n0_ := Za (Xe (g := gb179) (o := .cells #[.int .i64 a0_0, .int .i64 a0_1, .int .i64 a0_2] 23 (0, 0)) (bb_6 BK179.out) hb)
             have n1_ := Za (Xe (g := gb180) (o := .cells #[.int .i64 a1_0, .int .i64 a1_1, .int .i64 a1_2] 23 (0, 0)) (bb_6 BK180.out) hb)
             have n2_ := Za (Xe (g := gb181) (o := .cells #[.int .i64 a2_0, .int .i64 a2_1] 25 (0, 0)) (bb_6 BK181.out) hb)
             have n3_ := Za (Xe (g := gb189) (o := .cells #[.int .i64 0, .int .i64 0, .int .i64 0] 23 (0, 0)) (bb_6 BK189.out) hb)
             have n4_ := Za (Xo (hb_6 HB.out) hb)
             clear BK179
             clear BK180
             clear BK181
             clear BK189
             clear HB
             have BK179 := n0_
             have BK180 := n1_
             have BK181 := n2_
             have BK189 := n3_
             have HB := n4_
             clear n0_ n1_ n2_ n3_ n4_
             (try clear hb)
             (try clear hb2)
             (try clear hk)
             (try clear hi)
             refine hK.out _ _ ⟨(Xd BK179.out 0).trans rfl, (Xd BK179.out 1).trans rfl, (Xd BK179.out 2).trans rfl, (Xd BK180.out 0).trans rfl, (Xd BK180.out 1).trans rfl, (Xd BK180.out 2).trans rfl⟩ (fun hHeld => ?_)
             clear hK K
             refine Xr (a' := ?_) ?_ ?_
             rotate_left
             ·show Act.put _ (some 13) _ = _
              simp only [Act.put, Xa, Xb, Xc, Xf, Xg]
              rfl
             exact Xr (by first | (simp only [Xu, Act.put, Xa, Xb, Xc]; done) | (simp only [Xu, Act.put, Xa, Xb, Xc]; rfl)) (hJ2_5 (gb189) _ ⟨hHeld, (bb_6 BK179.out), (bb_6 BK180.out), (bb_6 BK181.out), (bb_6 BK189.out), GW189.out, GE189.out, NB179_189.out, NB189_179.out, NB180_189.out, NB189_180.out, NB181_189.out, NB189_181.out, (hb_6 HB.out)⟩)
            ·skip
             refine box_step ?hg (N := 8) ?hd (cs := #[.int .i64 0, .int .i64 0, .int .i64 0]) (t := 23) ?hr ?_; (case hd => rfl); (case hg => rfl); (case hr => first | (go_simp; done) | (go_simp; rfl))
             intro gb190 hg w16 hbox hb
             have n0_ := Za (Xe (g := gb179) (o := .cells #[.int .i64 a0_0, .int .i64 a0_1, .int .i64 a0_2] 23 (0, 0)) (bb_6 BK179.out) hb)
             have n1_ := Za (Xe (g := gb180) (o := .cells #[.int .i64 a1_0, .int .i64 a1_1, .int .i64 a1_2] 23 (0, 0)) (bb_6 BK180.out) hb)
             have n2_ := Za (Xe (g := gb181) (o := .cells #[.int .i64 a2_0, .int .i64 a2_1] 25 (0, 0)) (bb_6 BK181.out) hb)
             have n3_ := Za (Xe (g := gb189) (o := .cells #[.int .i64 0, .int .i64 0, .int .i64 0] 23 (0, 0)) (bb_6 BK189.out) hb)
             have n4_ := Za (Xo (hb_6 HB.out) hb)
             have n5_ := Za (hbox)
             have n6_ := Za ((by rw [hg]; exact (Xs (hb_6 HB.out)) : w.heap.size ≤ gb190))
             have n7_ := Za ((by rw [hg]; exact (Xs (hb_6 HB.out)) : w.heap.size ≤ gb190))
             have n8_ := Za ((by rw [hg]; exact Nat.ne_of_lt (Xn (g := gb179) (o := .cells #[.int .i64 a0_0, .int .i64 a0_1, .int .i64 a0_2] 23 (0, 0)) (bb_6 BK179.out)) : gb179 ≠ gb190))
             have n9_ := Za ((by rw [hg]; exact Nat.ne_of_gt (Xn (g := gb179) (o := .cells #[.int .i64 a0_0, .int .i64 a0_1, .int .i64 a0_2] 23 (0, 0)) (bb_6 BK179.out)) : gb190 ≠ gb179))
             have n10_ := Za ((by rw [hg]; exact Nat.ne_of_lt (Xn (g := gb180) (o := .cells #[.int .i64 a1_0, .int .i64 a1_1, .int .i64 a1_2] 23 (0, 0)) (bb_6 BK180.out)) : gb180 ≠ gb190))
             have n11_ := Za ((by rw [hg]; exact Nat.ne_of_gt (Xn (g := gb180) (o := .cells #[.int .i64 a1_0, .int .i64 a1_1, .int .i64 a1_2] 23 (0, 0)) (bb_6 BK180.out)) : gb190 ≠ gb180))
             have n12_ := Za ((by rw [hg]; exact Nat.ne_of_lt (Xn (g := gb181) (o := .cells #[.int .i64 a2_0, .int .i64 a2_1] 25 (0, 0)) (bb_6 BK181.out)) : gb181 ≠ gb190))
             have n13_ := Za ((by rw [hg]; exact Nat.ne_of_gt (Xn (g := gb181) (o := .cells #[.int .i64 a2_0, .int .i64 a2_1] 25 (0, 0)) (bb_6 BK181.out)) : gb190 ≠ gb181))
             have n14_ := Za ((by rw [hg]; exact Nat.ne_of_lt (Xn (g := gb189) (o := .cells #[.int .i64 0, .int .i64 0, .int .i64 0] 23 (0, 0)) (bb_6 BK189.out)) : gb189 ≠ gb190))
             have n15_ := Za ((by rw [hg]; exact Nat.ne_of_gt (Xn (g := gb189) (o := .cells #[.int .i64 0, .int .i64 0, .int .i64 0] 23 (0, 0)) (bb_6 BK189.out)) : gb190 ≠ gb189))
             clear BK179
             clear BK180
             clear BK181
             clear BK189
             clear HB
             have BK179 := n0_
             have BK180 := n1_
             have BK181 := n2_
             have BK189 := n3_
             have HB := n4_
             have BK190 := n5_
             have GW190 := n6_
             have GE190 := n7_
             have NB179_190 := n8_
             have NB190_179 := n9_
             have NB180_190 := n10_
             have NB190_180 := n11_
             have NB181_190 := n12_
             have NB190_181 := n13_
             have NB189_190 := n14_
             have NB190_189 := n15_
             clear n0_ n1_ n2_ n3_ n4_ n5_ n6_ n7_ n8_ n9_ n10_ n11_ n12_ n13_ n14_ n15_
             clear hb hbox hg
             refine hK.out _ _ ⟨(Xd BK179.out 0).trans rfl, (Xd BK179.out 1).trans rfl, (Xd BK179.out 2).trans rfl, (Xd BK180.out 0).trans rfl, (Xd BK180.out 1).trans rfl, (Xd BK180.out 2).trans rfl⟩ (fun hHeld => ?_)
             clear hK K
             refine Xr (a' := ?_) ?_ ?_
             rotate_left
             ·show Act.put _ (some 8) _ = _
              simp only [Act.put, Xa, Xb, Xc, Xf, Xg]
              rfl
             exact Xr (by first | (simp only [Xu, Act.put, Xa, Xb, Xc]; done) | (simp only [Xu, Act.put, Xa, Xb, Xc]; rfl)) (hJ5_6 (gb189, gb190) _ ⟨hHeld, (bb_6 BK179.out), (bb_6 BK180.out), (bb_6 BK181.out), (bb_6 BK189.out), (bb_6 BK190.out), GW189.out, GE189.out, NB179_189.out, NB189_179.out, NB180_189.out, NB189_180.out, NB181_189.out, NB189_181.out, NB190_189.out, NB189_190.out, GW190.out, GE190.out, NB179_190.out, NB190_179.out, NB180_190.out, NB190_180.out, NB181_190.out, NB190_181.out, (hb_6 HB.out)⟩)
          ·skip
           rintro _ w15 ⟨hS_, h0_, h1_, h2_, h3_⟩
           have n0_ : Xh (w15.heap[gb179]? = some (.cells #[.int .i64 a0_0, .int .i64 a0_1, .int .i64 a0_2] 23 (0, 0))) := ⟨h0_⟩
           have n1_ : Xh (w15.heap[gb180]? = some (.cells #[.int .i64 a1_0, .int .i64 a1_1, .int .i64 a1_2] 23 (0, 0))) := ⟨h1_⟩
           have n2_ : Xh (w15.heap[gb181]? = some (.cells #[.int .i64 a2_0, .int .i64 a2_1] 25 (0, 0))) := ⟨h2_⟩
           have n3_ : Xh (Below w.heap.size w w15) := ⟨h3_⟩
           clear BK179
           clear BK180
           clear BK181
           clear HB
           clear h0_ h1_ h2_ h3_
           have BK179 := n0_
           have BK180 := n1_
           have BK181 := n2_
           have HB := n3_
           clear n0_ n1_ n2_ n3_
           have hHeld : w15.cell? ⟨gb179, 0, none⟩ = some (.int .i64 a0_0) ∧ w15.cell? ⟨gb179, 1, none⟩ = some (.int .i64 a0_1) ∧ w15.cell? ⟨gb179, 2, none⟩ = some (.int .i64 a0_2) ∧ w15.cell? ⟨gb180, 0, none⟩ = some (.int .i64 a1_0) ∧ w15.cell? ⟨gb180, 1, none⟩ = some (.int .i64 a1_1) ∧ w15.cell? ⟨gb180, 2, none⟩ = some (.int .i64 a1_2) := hS_
           refine Xr (a' := ?_) ?_ ?_
           rotate_left
           ·simp only [Xu, Act.put, Xa, Xb, Xc]
            rfl
           refine three_ (i := 4) (j := 5) (k := 6) (Ni := some 15) (Nj := some 7) (Nk := some 8) #[Zt,Zt,Zt,Zt,Zt,Zf,Zf,Zf,Zf] #[Zt,Zt,Zt,Zt,Zf,Zt,Zf,Zf,Zf] #[Zt,Zt,Zt,Zt,Zf,Zf,Zt,Zf,Zf] rfl rfl rfl rfl rfl rfl (three_of HT_.out (by kernel_rfl)) (by decide) (by decide) (by decide) (fun K hK => ?_) (fun K hK => ?_) (fun K hK => ?_)
           ·skip
            refine goes_ Try.func54 (by kernel_rfl) rfl #[.agg #[.int .i64 a0_0, .int .i64 a0_1, .int .i64 a0_2]] (by rfl) rfl rfl (by (try simp only [List.map_toArray, List.map_cons, List.map_nil]); first | done | rfl | (simp only [List.length_drop, List.length_take]; rfl)) ?_
            with_reducible refine (place_Back.calls k a0_0 a0_1 a0_2 t186 t187 t188 _ A7.out).mono ?_
            rintro e w16 ⟨rfl, hb⟩
            refine ⟨_, rfl, ?_⟩
            have n0_ := Za (Xe (g := gb179) (o := .cells #[.int .i64 a0_0, .int .i64 a0_1, .int .i64 a0_2] 23 (0, 0)) (bb_6 BK179.out) hb)
            have n1_ := Za (Xe (g := gb180) (o := .cells #[.int .i64 a1_0, .int .i64 a1_1, .int .i64 a1_2] 23 (0, 0)) (bb_6 BK180.out) hb)
            have n2_ := Za (Xe (g := gb181) (o := .cells #[.int .i64 a2_0, .int .i64 a2_1] 25 (0, 0)) (bb_6 BK181.out) hb)
            have n3_ := Za (Xo (hb_6 HB.out) hb)
            clear BK179
            clear BK180
            clear BK181
            clear HB
            have BK179 := n0_
            have BK180 := n1_
            have BK181 := n2_
            have HB := n3_
            clear n0_ n1_ n2_ n3_
            (try clear hb)
            (try clear hb2)
            (try clear hk)
            (try clear hi)
            refine hK.out _ _ ⟨(Xd BK179.out 0).trans rfl, (Xd BK179.out 1).trans rfl, (Xd BK179.out 2).trans rfl, (Xd BK180.out 0).trans rfl, (Xd BK180.out 1).trans rfl, (Xd BK180.out 2).trans rfl⟩ (fun hHeld => ?_)
            clear hK K
            refine Xr (a' := ?_) ?_ ?_
            rotate_left
            ·show Act.put _ (some 15) _ = _
             simp only [Act.put, Xa, Xb, Xc, Xf, Xg]
             rfl
            exact Xr (by first | (simp only [Xu, Act.put, Xa, Xb, Xc]; done) | (simp only [Xu, Act.put, Xa, Xb, Xc]; rfl)) (hJ2_4 () _ ⟨hHeld, (bb_6 BK179.out), (bb_6 BK180.out), (bb_6 BK181.out), (hb_6 HB.out)⟩)
           ·skip
            refine box_step ?hg (N := 7) ?hd (cs := #[.int .i64 0, .int .i64 0, .int .i64 0]) (t := 23) ?hr ?_; (case hd => rfl); (case hg => rfl); (case hr => first | (go_simp; done) | (go_simp; rfl))
            intro gb189 hg w16 hbox hb
            have n0_ := Za (Xe (g := gb179) (o := .cells #[.int .i64 a0_0, .int .i64 a0_1, .int .i64 a0_2] 23 (0, 0)) (bb_6 BK179.out) hb)
            have n1_ := Za (Xe (g := gb180) (o := .cells #[.int .i64 a1_0, .int .i64 a1_1, .int .i64 a1_2] 23 (0, 0)) (bb_6 BK180.out) hb)
            have n2_ := Za (Xe (g := gb181) (o := .cells #[.int .i64 a2_0, .int .i64 a2_1] 25 (0, 0)) (bb_6 BK181.out) hb)
            have n3_ := Za (Xo (hb_6 HB.out) hb)
            have n4_ := Za (hbox)
            have n5_ := Za ((by rw [hg]; exact (Xs (hb_6 HB.out)) : w.heap.size ≤ gb189))
            have n6_ := Za ((by rw [hg]; exact (Xs (hb_6 HB.out)) : w.heap.size ≤ gb189))
            have n7_ := Za ((by rw [hg]; exact Nat.ne_of_lt (Xn (g := gb179) (o := .cells #[.int .i64 a0_0, .int .i64 a0_1, .int .i64 a0_2] 23 (0, 0)) (bb_6 BK179.out)) : gb179 ≠ gb189))
            have n8_ := Za ((by rw [hg]; exact Nat.ne_of_gt (Xn (g := gb179) (o := .cells #[.int .i64 a0_0, .int .i64 a0_1, .int .i64 a0_2] 23 (0, 0)) (bb_6 BK179.out)) : gb189 ≠ gb179))
            have n9_ := Za ((by rw [hg]; exact Nat.ne_of_lt (Xn (g := gb180) (o := .cells #[.int .i64 a1_0, .int .i64 a1_1, .int .i64 a1_2] 23 (0, 0)) (bb_6 BK180.out)) : gb180 ≠ gb189))
            have n10_ := Za ((by rw [hg]; exact Nat.ne_of_gt (Xn (g := gb180) (o := .cells #[.int .i64 a1_0, .int .i64 a1_1, .int .i64 a1_2] 23 (0, 0)) (bb_6 BK180.out)) : gb189 ≠ gb180))
            have n11_ := Za ((by rw [hg]; exact Nat.ne_of_lt (Xn (g := gb181) (o := .cells #[.int .i64 a2_0, .int .i64 a2_1] 25 (0, 0)) (bb_6 BK181.out)) : gb181 ≠ gb189))
            have n12_ := Za ((by rw [hg]; exact Nat.ne_of_gt (Xn (g := gb181) (o := .cells #[.int .i64 a2_0, .int .i64 a2_1] 25 (0, 0)) (bb_6 BK181.out)) : gb189 ≠ gb181))
            clear BK179
            clear BK180
            clear BK181
            clear HB
            have BK179 := n0_
            have BK180 := n1_
            have BK181 := n2_
            have HB := n3_
            have BK189 := n4_
            have GW189 := n5_
            have GE189 := n6_
            have NB179_189 := n7_
            have NB189_179 := n8_
            have NB180_189 := n9_
            have NB189_180 := n10_
            have NB181_189 := n11_
            have NB189_181 := n12_
            clear n0_ n1_ n2_ n3_ n4_ n5_ n6_ n7_ n8_ n9_ n10_ n11_ n12_
            clear hb hbox hg
            refine hK.out _ _ ⟨(Xd BK179.out 0).trans rfl, (Xd BK179.out 1).trans rfl, (Xd BK179.out 2).trans rfl, (Xd BK180.out 0).trans rfl, (Xd BK180.out 1).trans rfl, (Xd BK180.out 2).trans rfl⟩ (fun hHeld => ?_)
            clear hK K
            refine Xr (a' := ?_) ?_ ?_
            rotate_left
            ·show Act.put _ (some 7) _ = _
             simp only [Act.put, Xa, Xb, Xc, Xf, Xg]
             rfl
            exact Xr (by first | (simp only [Xu, Act.put, Xa, Xb, Xc]; done) | (simp only [Xu, Act.put, Xa, Xb, Xc]; rfl)) (hJ2_5 (gb189) _ ⟨hHeld, (bb_6 BK179.out), (bb_6 BK180.out), (bb_6 BK181.out), (bb_6 BK189.out), GW189.out, GE189.out, NB179_189.out, NB189_179.out, NB180_189.out, NB189_180.out, NB181_189.out, NB189_181.out, (hb_6 HB.out)⟩)
           ·skip
            refine box_step ?hg (N := 8) ?hd (cs := #[.int .i64 0, .int .i64 0, .int .i64 0]) (t := 23) ?hr ?_; (case hd => rfl); (case hg => rfl); (case hr => first | (go_simp; done) | (go_simp; rfl))
            intro gb190 hg w16 hbox hb
            have n0_ := Za (Xe (g := gb179) (o := .cells #[.int .i64 a0_0, .int .i64 a0_1, .int .i64 a0_2] 23 (0, 0)) (bb_6 BK179.out) hb)
            have n1_ := Za (Xe (g := gb180) (o := .cells #[.int .i64 a1_0, .int .i64 a1_1, .int .i64 a1_2] 23 (0, 0)) (bb_6 BK180.out) hb)
            have n2_ := Za (Xe (g := gb181) (o := .cells #[.int .i64 a2_0, .int .i64 a2_1] 25 (0, 0)) (bb_6 BK181.out) hb)
            have n3_ := Za (Xo (hb_6 HB.out) hb)
            have n4_ := Za (hbox)
            have n5_ := Za ((by rw [hg]; exact (Xs (hb_6 HB.out)) : w.heap.size ≤ gb190))
            have n6_ := Za ((by rw [hg]; exact (Xs (hb_6 HB.out)) : w.heap.size ≤ gb190))
            have n7_ := Za ((by rw [hg]; exact Nat.ne_of_lt (Xn (g := gb179) (o := .cells #[.int .i64 a0_0, .int .i64 a0_1, .int .i64 a0_2] 23 (0, 0)) (bb_6 BK179.out)) : gb179 ≠ gb190))
            have n8_ := Za ((by rw [hg]; exact Nat.ne_of_gt (Xn (g := gb179) (o := .cells #[.int .i64 a0_0, .int .i64 a0_1, .int .i64 a0_2] 23 (0, 0)) (bb_6 BK179.out)) : gb190 ≠ gb179))
            have n9_ := Za ((by rw [hg]; exact Nat.ne_of_lt (Xn (g := gb180) (o := .cells #[.int .i64 a1_0, .int .i64 a1_1, .int .i64 a1_2] 23 (0, 0)) (bb_6 BK180.out)) : gb180 ≠ gb190))
            have n10_ := Za ((by rw [hg]; exact Nat.ne_of_gt (Xn (g := gb180) (o := .cells #[.int .i64 a1_0, .int .i64 a1_1, .int .i64 a1_2] 23 (0, 0)) (bb_6 BK180.out)) : gb190 ≠ gb180))
            have n11_ := Za ((by rw [hg]; exact Nat.ne_of_lt (Xn (g := gb181) (o := .cells #[.int .i64 a2_0, .int .i64 a2_1] 25 (0, 0)) (bb_6 BK181.out)) : gb181 ≠ gb190))
            have n12_ := Za ((by rw [hg]; exact Nat.ne_of_gt (Xn (g := gb181) (o := .cells #[.int .i64 a2_0, .int .i64 a2_1] 25 (0, 0)) (bb_6 BK181.out)) : gb190 ≠ gb181))
            clear BK179
            clear BK180
            clear BK181
            clear HB
            have BK179 := n0_
            have BK180 := n1_
            have BK181 := n2_
            have HB := n3_
            have BK190 := n4_
            have GW190 := n5_
            have GE190 := n6_
            have NB179_190 := n7_
            have NB190_179 := n8_
            have NB180_190 := n9_
            have NB190_180 := n10_
            have NB181_190 := n11_
            have NB190_181 := n12_
            clear n0_ n1_ n2_ n3_ n4_ n5_ n6_ n7_ n8_ n9_ n10_ n11_ n12_
            clear hb hbox hg
            refine hK.out _ _ ⟨(Xd BK179.out 0).trans rfl, (Xd BK179.out 1).trans rfl, (Xd BK179.out 2).trans rfl, (Xd BK180.out 0).trans rfl, (Xd BK180.out 1).trans rfl, (Xd BK180.out 2).trans rfl⟩ (fun hHeld => ?_)
            clear hK K
            refine Xr (a' := ?_) ?_ ?_
            rotate_left
            ·show Act.put _ (some 8) _ = _
             simp only [Act.put, Xa, Xb, Xc, Xf, Xg]
             rfl
            exact Xr (by first | (simp only [Xu, Act.put, Xa, Xb, Xc]; done) | (simp only [Xu, Act.put, Xa, Xb, Xc]; rfl)) (hJ2_6 (gb190) _ ⟨hHeld, (bb_6 BK179.out), (bb_6 BK180.out), (bb_6 BK181.out), (bb_6 BK190.out), GW190.out, GE190.out, NB179_190.out, NB190_179.out, NB180_190.out, NB190_180.out, NB181_190.out, NB190_181.out, (hb_6 HB.out)⟩)
         ·skip
          rintro ⟨gb189, gb190⟩ w16 ⟨hS_, h0_, h1_, h2_, h3_, h4_, h5_, h6_, h7_, h8_, h9_, h10_, h11_, h12_, h13_, h14_, h15_, h16_, h17_, h18_, h19_, h20_, h21_, h22_, h23_⟩
          have n0_ : Xh (w16.heap[gb179]? = some (.cells #[.int .i64 a0_0, .int .i64 a0_1, .int .i64 a0_2] 23 (0, 0))) := ⟨h0_⟩
          have n1_ : Xh (w16.heap[gb180]? = some (.cells #[.int .i64 a1_0, .int .i64 a1_1, .int .i64 a1_2] 23 (0, 0))) := ⟨h1_⟩
          have n2_ : Xh (w16.heap[gb181]? = some (.cells #[.int .i64 a2_0, .int .i64 a2_1] 25 (0, 0))) := ⟨h2_⟩
          have n3_ : Xh (w16.heap[gb189]? = some (.cells #[.int .i64 0, .int .i64 0, .int .i64 0] 23 (0, 0))) := ⟨h3_⟩
          have n4_ : Xh (w16.heap[gb190]? = some (.cells #[.int .i64 0, .int .i64 0, .int .i64 0] 23 (0, 0))) := ⟨h4_⟩
          have n5_ : Xh (w.heap.size ≤ gb189) := ⟨h5_⟩
          have n6_ : Xh (w.heap.size ≤ gb189) := ⟨h6_⟩
          have n7_ : Xh (gb179 ≠ gb189) := ⟨h7_⟩
          have n8_ : Xh (gb189 ≠ gb179) := ⟨h8_⟩
          have n9_ : Xh (gb180 ≠ gb189) := ⟨h9_⟩
          have n10_ : Xh (gb189 ≠ gb180) := ⟨h10_⟩
          have n11_ : Xh (gb181 ≠ gb189) := ⟨h11_⟩
          have n12_ : Xh (gb189 ≠ gb181) := ⟨h12_⟩
          have n13_ : Xh (gb190 ≠ gb189) := ⟨h13_⟩
          have n14_ : Xh (gb189 ≠ gb190) := ⟨h14_⟩
          have n15_ : Xh (w.heap.size ≤ gb190) := ⟨h15_⟩
          have n16_ : Xh (w.heap.size ≤ gb190) := ⟨h16_⟩
          have n17_ : Xh (gb179 ≠ gb190) := ⟨h17_⟩
          have n18_ : Xh (gb190 ≠ gb179) := ⟨h18_⟩
          have n19_ : Xh (gb180 ≠ gb190) := ⟨h19_⟩
          have n20_ : Xh (gb190 ≠ gb180) := ⟨h20_⟩
          have n21_ : Xh (gb181 ≠ gb190) := ⟨h21_⟩
          have n22_ : Xh (gb190 ≠ gb181) := ⟨h22_⟩
          have n23_ : Xh (Below w.heap.size w w16) := ⟨h23_⟩
          clear BK179
          clear BK180
          clear BK181
          clear HB
          clear h0_ h1_ h2_ h3_ h4_ h5_ h6_ h7_ h8_ h9_ h10_ h11_ h12_ h13_ h14_ h15_ h16_ h17_ h18_ h19_ h20_ h21_ h22_ h23_
          have BK179 := n0_
          have BK180 := n1_
          have BK181 := n2_
          have BK189 := n3_
          have BK190 := n4_
          have GW189 := n5_
          have GE189 := n6_
          have NB179_189 := n7_
          have NB189_179 := n8_
          have NB180_189 := n9_
          have NB189_180 := n10_
          have NB181_189 := n11_
          have NB189_181 := n12_
          have NB190_189 := n13_
          have NB189_190 := n14_
          have GW190 := n15_
          have GE190 := n16_
          have NB179_190 := n17_
          have NB190_179 := n18_
          have NB180_190 := n19_
          have NB190_180 := n20_
          have NB181_190 := n21_
          have NB190_181 := n22_
          have HB := n23_
          clear n0_ n1_ n2_ n3_ n4_ n5_ n6_ n7_ n8_ n9_ n10_ n11_ n12_ n13_ n14_ n15_ n16_ n17_ n18_ n19_ n20_ n21_ n22_ n23_
          have hHeld : w16.cell? ⟨gb179, 0, none⟩ = some (.int .i64 a0_0) ∧ w16.cell? ⟨gb179, 1, none⟩ = some (.int .i64 a0_1) ∧ w16.cell? ⟨gb179, 2, none⟩ = some (.int .i64 a0_2) ∧ w16.cell? ⟨gb180, 0, none⟩ = some (.int .i64 a1_0) ∧ w16.cell? ⟨gb180, 1, none⟩ = some (.int .i64 a1_1) ∧ w16.cell? ⟨gb180, 2, none⟩ = some (.int .i64 a1_2) := hS_
          refine Xr (a' := ?_) ?_ ?_
          rotate_left
          ·simp only [Xu, Act.put, Xa, Xb, Xc]
           rfl
          refine one_ (i := 2) (N := some 13) #[Zt,Zt,Zt,Zt,Zf,Zt,Zt,Zf,Zf] rfl rfl (one_of HT_.out (by kernel_rfl)) (by decide) (fun K hK => ?_)
          refine goes_ Try.func53 (by kernel_rfl) rfl #[.agg #[.int .i64 a0_0, .int .i64 a0_1, .int .i64 a0_2], .agg #[.int .i64 a1_0, .int .i64 a1_1, .int .i64 a1_2]] (by rfl) rfl rfl (by (try simp only [List.map_toArray, List.map_cons, List.map_nil]); first | done | rfl | (simp only [List.length_drop, List.length_take]; rfl)) ?_
          with_reducible refine (place_Then.calls k a0_0 a0_1 a0_2 a1_0 a1_1 a1_2 t183 t184 t185 _ A6.out).mono ?_
          rintro e w17 ⟨rfl, hb⟩
          refine ⟨_, rfl, ?_⟩
          have n0_ := Za (Xe (g := gb179) (o := .cells #[.int .i64 a0_0, .int .i64 a0_1, .int .i64 a0_2] 23 (0, 0)) (bb_6 BK179.out) hb)
          have n1_ := Za (Xe (g := gb180) (o := .cells #[.int .i64 a1_0, .int .i64 a1_1, .int .i64 a1_2] 23 (0, 0)) (bb_6 BK180.out) hb)
          have n2_ := Za (Xe (g := gb181) (o := .cells #[.int .i64 a2_0, .int .i64 a2_1] 25 (0, 0)) (bb_6 BK181.out) hb)
          have n3_ := Za (Xe (g := gb189) (o := .cells #[.int .i64 0, .int .i64 0, .int .i64 0] 23 (0, 0)) (bb_6 BK189.out) hb)
          have n4_ := Za (Xe (g := gb190) (o := .cells #[.int .i64 0, .int .i64 0, .int .i64 0] 23 (0, 0)) (bb_6 BK190.out) hb)
          have n5_ := Za (Xo (hb_6 HB.out) hb)
          clear BK179
          clear BK180
          clear BK181
          clear BK189
          clear BK190
          clear HB
          have BK179 := n0_
          have BK180 := n1_
          have BK181 := n2_
          have BK189 := n3_
          have BK190 := n4_
          have HB := n5_
          clear n0_ n1_ n2_ n3_ n4_ n5_
          (try clear hb)
          (try clear hb2)
          (try clear hk)
          (try clear hi)
          refine hK.out _ _ ⟨(Xd BK179.out 0).trans rfl, (Xd BK179.out 1).trans rfl, (Xd BK179.out 2).trans rfl, (Xd BK180.out 0).trans rfl, (Xd BK180.out 1).trans rfl, (Xd BK180.out 2).trans rfl⟩ (fun hHeld => ?_)
          clear hK K
          refine Xr (a' := ?_) ?_ ?_
          rotate_left
          ·show Act.put _ (some 13) _ = _
           simp only [Act.put, Xa, Xb, Xc, Xf, Xg]
           rfl
          exact Xr (by first | (simp only [Xu, Act.put, Xa, Xb, Xc]; done) | (simp only [Xu, Act.put, Xa, Xb, Xc]; rfl)) (hJ2_5_6 (gb189, gb190) _ ⟨hHeld, (bb_6 BK179.out), (bb_6 BK180.out), (bb_6 BK181.out), (bb_6 BK189.out), (bb_6 BK190.out), GW189.out, GE189.out, NB179_189.out, NB189_179.out, NB180_189.out, NB189_180.out, NB181_189.out, NB189_181.out, NB190_189.out, NB189_190.out, GW190.out, GE190.out, NB179_190.out, NB190_179.out, NB180_190.out, NB190_180.out, NB181_190.out, NB190_181.out, (hb_6 HB.out)⟩)
        ·skip
         rintro gb190 w16 ⟨hS_, h0_, h1_, h2_, h3_, h4_, h5_, h6_, h7_, h8_, h9_, h10_, h11_, h12_⟩
         have n0_ : Xh (w16.heap[gb179]? = some (.cells #[.int .i64 a0_0, .int .i64 a0_1, .int .i64 a0_2] 23 (0, 0))) := ⟨h0_⟩
         have n1_ : Xh (w16.heap[gb180]? = some (.cells #[.int .i64 a1_0, .int .i64 a1_1, .int .i64 a1_2] 23 (0, 0))) := ⟨h1_⟩
         have n2_ : Xh (w16.heap[gb181]? = some (.cells #[.int .i64 a2_0, .int .i64 a2_1] 25 (0, 0))) := ⟨h2_⟩
         have n3_ : Xh (w16.heap[gb190]? = some (.cells #[.int .i64 0, .int .i64 0, .int .i64 0] 23 (0, 0))) := ⟨h3_⟩
         have n4_ : Xh (w.heap.size ≤ gb190) := ⟨h4_⟩
         have n5_ : Xh (w.heap.size ≤ gb190) := ⟨h5_⟩
         have n6_ : Xh (gb179 ≠ gb190) := ⟨h6_⟩
         have n7_ : Xh (gb190 ≠ gb179) := ⟨h7_⟩
         have n8_ : Xh (gb180 ≠ gb190) := ⟨h8_⟩
         have n9_ : Xh (gb190 ≠ gb180) := ⟨h9_⟩
         have n10_ : Xh (gb181 ≠ gb190) := ⟨h10_⟩
         have n11_ : Xh (gb190 ≠ gb181) := ⟨h11_⟩
         have n12_ : Xh (Below w.heap.size w w16) := ⟨h12_⟩
         clear BK179
         clear BK180
         clear BK181
         clear HB
         clear h0_ h1_ h2_ h3_ h4_ h5_ h6_ h7_ h8_ h9_ h10_ h11_ h12_
         have BK179 := n0_
         have BK180 := n1_
         have BK181 := n2_
         have BK190 := n3_
         have GW190 := n4_
         have GE190 := n5_
         have NB179_190 := n6_
         have NB190_179 := n7_
         have NB180_190 := n8_
         have NB190_180 := n9_
         have NB181_190 := n10_
         have NB190_181 := n11_
         have HB := n12_
         clear n0_ n1_ n2_ n3_ n4_ n5_ n6_ n7_ n8_ n9_ n10_ n11_ n12_
         have hHeld : w16.cell? ⟨gb179, 0, none⟩ = some (.int .i64 a0_0) ∧ w16.cell? ⟨gb179, 1, none⟩ = some (.int .i64 a0_1) ∧ w16.cell? ⟨gb179, 2, none⟩ = some (.int .i64 a0_2) ∧ w16.cell? ⟨gb180, 0, none⟩ = some (.int .i64 a1_0) ∧ w16.cell? ⟨gb180, 1, none⟩ = some (.int .i64 a1_1) ∧ w16.cell? ⟨gb180, 2, none⟩ = some (.int .i64 a1_2) := hS_
         refine Xr (a' := ?_) ?_ ?_
         rotate_left
         ·simp only [Xu, Act.put, Xa, Xb, Xc]
          rfl
         refine two_ (i := 4) (j := 5) (Ni := some 15) (Nj := some 7) #[Zt,Zt,Zt,Zt,Zt,Zf,Zt,Zf,Zf] #[Zt,Zt,Zt,Zt,Zf,Zt,Zt,Zf,Zf] rfl rfl rfl rfl (two_of HT_.out (by kernel_rfl)) (by decide) (by decide) (fun K hK => ?_) (fun K hK => ?_)
         ·skip
          refine goes_ Try.func54 (by kernel_rfl) rfl #[.agg #[.int .i64 a0_0, .int .i64 a0_1, .int .i64 a0_2]] (by rfl) rfl rfl (by (try simp only [List.map_toArray, List.map_cons, List.map_nil]); first | done | rfl | (simp only [List.length_drop, List.length_take]; rfl)) ?_
          with_reducible refine (place_Back.calls k a0_0 a0_1 a0_2 t186 t187 t188 _ A7.out).mono ?_
          rintro e w17 ⟨rfl, hb⟩
          refine ⟨_, rfl, ?_⟩
          have n0_ := Za (Xe (g := gb179) (o := .cells #[.int .i64 a0_0, .int .i64 a0_1, .int .i64 a0_2] 23 (0, 0)) (bb_6 BK179.out) hb)
          have n1_ := Za (Xe (g := gb180) (o := .cells #[.int .i64 a1_0, .int .i64 a1_1, .int .i64 a1_2] 23 (0, 0)) (bb_6 BK180.out) hb)
          have n2_ := Za (Xe (g := gb181) (o := .cells #[.int .i64 a2_0, .int .i64 a2_1] 25 (0, 0)) (bb_6 BK181.out) hb)
          have n3_ := Za (Xe (g := gb190) (o := .cells #[.int .i64 0, .int .i64 0, .int .i64 0] 23 (0, 0)) (bb_6 BK190.out) hb)
          have n4_ := Za (Xo (hb_6 HB.out) hb)
          clear BK179
          clear BK180
          clear BK181
          clear BK190
          clear HB
          have BK179 := n0_
          have BK180 := n1_
          have BK181 := n2_
          have BK190 := n3_
          have HB := n4_
          clear n0_ n1_ n2_ n3_ n4_
          (try clear hb)
          (try clear hb2)
          (try clear hk)
          (try clear hi)
          refine hK.out _ _ ⟨(Xd BK179.out 0).trans rfl, (Xd BK179.out 1).trans rfl, (Xd BK179.out 2).trans rfl, (Xd BK180.out 0).trans rfl, (Xd BK180.out 1).trans rfl, (Xd BK180.out 2).trans rfl⟩ (fun hHeld => ?_)
          clear hK K
          refine Xr (a' := ?_) ?_ ?_
          rotate_left
          ·show Act.put _ (some 15) _ = _
           simp only [Act.put, Xa, Xb, Xc, Xf, Xg]
           rfl
          exact Xr (by first | (simp only [Xu, Act.put, Xa, Xb, Xc]; done) | (simp only [Xu, Act.put, Xa, Xb, Xc]; rfl)) (hJ2_4_6 (gb190) _ ⟨hHeld, (bb_6 BK179.out), (bb_6 BK180.out), (bb_6 BK181.out), (bb_6 BK190.out), GW190.out, GE190.out, NB179_190.out, NB190_179.out, NB180_190.out, NB190_180.out, NB181_190.out, NB190_181.out, (hb_6 HB.out)⟩)
         ·skip
          refine box_step ?hg (N := 7) ?hd (cs := #[.int .i64 0, .int .i64 0, .int .i64 0]) (t := 23) ?hr ?_; (case hd => rfl); (case hg => rfl); (case hr => first | (go_simp; done) | (go_simp; rfl))
          intro gb189 hg w17 hbox hb
          have n0_ := Za (Xe (g := gb179) (o := .cells #[.int .i64 a0_0, .int .i64 a0_1, .int .i64 a0_2] 23 (0, 0)) (bb_6 BK179.out) hb)
          have n1_ := Za (Xe (g := gb180) (o := .cells #[.int .i64 a1_0, .int .i64 a1_1, .int .i64 a1_2] 23 (0, 0)) (bb_6 BK180.out) hb)
          have n2_ := Za (Xe (g := gb181) (o := .cells #[.int .i64 a2_0, .int .i64 a2_1] 25 (0, 0)) (bb_6 BK181.out) hb)
          have n3_ := Za (Xe (g := gb190) (o := .cells #[.int .i64 0, .int .i64 0, .int .i64 0] 23 (0, 0)) (bb_6 BK190.out) hb)
          have n4_ := Za (Xo (hb_6 HB.out) hb)
          have n5_ := Za (hbox)
          have n6_ := Za ((by rw [hg]; exact (Xs (hb_6 HB.out)) : w.heap.size ≤ gb189))
          have n7_ := Za ((by rw [hg]; exact (Xs (hb_6 HB.out)) : w.heap.size ≤ gb189))
          have n8_ := Za ((by rw [hg]; exact Nat.ne_of_lt (Xn (g := gb179) (o := .cells #[.int .i64 a0_0, .int .i64 a0_1, .int .i64 a0_2] 23 (0, 0)) (bb_6 BK179.out)) : gb179 ≠ gb189))
          have n9_ := Za ((by rw [hg]; exact Nat.ne_of_gt (Xn (g := gb179) (o := .cells #[.int .i64 a0_0, .int .i64 a0_1, .int .i64 a0_2] 23 (0, 0)) (bb_6 BK179.out)) : gb189 ≠ gb179))
          have n10_ := Za ((by rw [hg]; exact Nat.ne_of_lt (Xn (g := gb180) (o := .cells #[.int .i64 a1_0, .int .i64 a1_1, .int .i64 a1_2] 23 (0, 0)) (bb_6 BK180.out)) : gb180 ≠ gb189))
          have n11_ := Za ((by rw [hg]; exact Nat.ne_of_gt (Xn (g := gb180) (o := .cells #[.int .i64 a1_0, .int .i64 a1_1, .int .i64 a1_2] 23 (0, 0)) (bb_6 BK180.out)) : gb189 ≠ gb180))
          have n12_ := Za ((by rw [hg]; exact Nat.ne_of_lt (Xn (g := gb181) (o := .cells #[.int .i64 a2_0, .int .i64 a2_1] 25 (0, 0)) (bb_6 BK181.out)) : gb181 ≠ gb189))
          have n13_ := Za ((by rw [hg]; exact Nat.ne_of_gt (Xn (g := gb181) (o := .cells #[.int .i64 a2_0, .int .i64 a2_1] 25 (0, 0)) (bb_6 BK181.out)) : gb189 ≠ gb181))
          have n14_ := Za ((by rw [hg]; exact Nat.ne_of_lt (Xn (g := gb190) (o := .cells #[.int .i64 0, .int .i64 0, .int .i64 0] 23 (0, 0)) (bb_6 BK190.out)) : gb190 ≠ gb189))
          have n15_ := Za ((by rw [hg]; exact Nat.ne_of_gt (Xn (g := gb190) (o := .cells #[.int .i64 0, .int .i64 0, .int .i64 0] 23 (0, 0)) (bb_6 BK190.out)) : gb189 ≠ gb190))
          clear BK179
          clear BK180
          clear BK181
          clear BK190
          clear HB
          have BK179 := n0_
          have BK180 := n1_
          have BK181 := n2_
          have BK190 := n3_
          have HB := n4_
          have BK189 := n5_
          have GW189 := n6_
          have GE189 := n7_
          have NB179_189 := n8_
          have NB189_179 := n9_
          have NB180_189 := n10_
          have NB189_180 := n11_
          have NB181_189 := n12_
          have NB189_181 := n13_
          have NB190_189 := n14_
          have NB189_190 := n15_
          clear n0_ n1_ n2_ n3_ n4_ n5_ n6_ n7_ n8_ n9_ n10_ n11_ n12_ n13_ n14_ n15_
          clear hb hbox hg
          refine hK.out _ _ ⟨(Xd BK179.out 0).trans rfl, (Xd BK179.out 1).trans rfl, (Xd BK179.out 2).trans rfl, (Xd BK180.out 0).trans rfl, (Xd BK180.out 1).trans rfl, (Xd BK180.out 2).trans rfl⟩ (fun hHeld => ?_)
          clear hK K
          refine Xr (a' := ?_) ?_ ?_
          rotate_left
          ·show Act.put _ (some 7) _ = _
           simp only [Act.put, Xa, Xb, Xc, Xf, Xg]
           rfl
          exact Xr (by first | (simp only [Xu, Act.put, Xa, Xb, Xc]; done) | (simp only [Xu, Act.put, Xa, Xb, Xc]; rfl)) (hJ2_5_6 (gb189, gb190) _ ⟨hHeld, (bb_6 BK179.out), (bb_6 BK180.out), (bb_6 BK181.out), (bb_6 BK189.out), (bb_6 BK190.out), GW189.out, GE189.out, NB179_189.out, NB189_179.out, NB180_189.out, NB189_180.out, NB181_189.out, NB189_181.out, NB190_189.out, NB189_190.out, GW190.out, GE190.out, NB179_190.out, NB190_179.out, NB180_190.out, NB190_180.out, NB181_190.out, NB190_181.out, (hb_6 HB.out)⟩)
       ·skip
        rintro gb189 w16 ⟨hS_, h0_, h1_, h2_, h3_, h4_, h5_, h6_, h7_, h8_, h9_, h10_, h11_, h12_⟩
        have n0_ : Xh (w16.heap[gb179]? = some (.cells #[.int .i64 a0_0, .int .i64 a0_1, .int .i64 a0_2] 23 (0, 0))) := ⟨h0_⟩
        have n1_ : Xh (w16.heap[gb180]? = some (.cells #[.int .i64 a1_0, .int .i64 a1_1, .int .i64 a1_2] 23 (0, 0))) := ⟨h1_⟩
        have n2_ : Xh (w16.heap[gb181]? = some (.cells #[.int .i64 a2_0, .int .i64 a2_1] 25 (0, 0))) := ⟨h2_⟩
        have n3_ : Xh (w16.heap[gb189]? = some (.cells #[.int .i64 0, .int .i64 0, .int .i64 0] 23 (0, 0))) := ⟨h3_⟩
        have n4_ : Xh (w.heap.size ≤ gb189) := ⟨h4_⟩
        have n5_ : Xh (w.heap.size ≤ gb189) := ⟨h5_⟩
        have n6_ : Xh (gb179 ≠ gb189) := ⟨h6_⟩
        have n7_ : Xh (gb189 ≠ gb179) := ⟨h7_⟩
        have n8_ : Xh (gb180 ≠ gb189) := ⟨h8_⟩
        have n9_ : Xh (gb189 ≠ gb180) := ⟨h9_⟩
        have n10_ : Xh (gb181 ≠ gb189) := ⟨h10_⟩
        have n11_ : Xh (gb189 ≠ gb181) := ⟨h11_⟩
        have n12_ : Xh (Below w.heap.size w w16) := ⟨h12_⟩
        clear BK179
        clear BK180
        clear BK181
        clear HB
        clear h0_ h1_ h2_ h3_ h4_ h5_ h6_ h7_ h8_ h9_ h10_ h11_ h12_
        have BK179 := n0_
        have BK180 := n1_
        have BK181 := n2_
        have BK189 := n3_
        have GW189 := n4_
        have GE189 := n5_
        have NB179_189 := n6_
        have NB189_179 := n7_
        have NB180_189 := n8_
        have NB189_180 := n9_
        have NB181_189 := n10_
        have NB189_181 := n11_
        have HB := n12_
        clear n0_ n1_ n2_ n3_ n4_ n5_ n6_ n7_ n8_ n9_ n10_ n11_ n12_
        have hHeld : w16.cell? ⟨gb179, 0, none⟩ = some (.int .i64 a0_0) ∧ w16.cell? ⟨gb179, 1, none⟩ = some (.int .i64 a0_1) ∧ w16.cell? ⟨gb179, 2, none⟩ = some (.int .i64 a0_2) ∧ w16.cell? ⟨gb180, 0, none⟩ = some (.int .i64 a1_0) ∧ w16.cell? ⟨gb180, 1, none⟩ = some (.int .i64 a1_1) ∧ w16.cell? ⟨gb180, 2, none⟩ = some (.int .i64 a1_2) := hS_
        refine Xr (a' := ?_) ?_ ?_
        rotate_left
        ·simp only [Xu, Act.put, Xa, Xb, Xc]
         rfl
        refine two_ (i := 4) (j := 6) (Ni := some 15) (Nj := some 8) #[Zt,Zt,Zt,Zt,Zt,Zt,Zf,Zf,Zf] #[Zt,Zt,Zt,Zt,Zf,Zt,Zt,Zf,Zf] rfl rfl rfl rfl (two_of HT_.out (by kernel_rfl)) (by decide) (by decide) (fun K hK => ?_) (fun K hK => ?_)
        ·skip
         refine goes_ Try.func54 (by kernel_rfl) rfl #[.agg #[.int .i64 a0_0, .int .i64 a0_1, .int .i64 a0_2]] (by rfl) rfl rfl (by (try simp only [List.map_toArray, List.map_cons, List.map_nil]); first | done | rfl | (simp only [List.length_drop, List.length_take]; rfl)) ?_
         with_reducible refine (place_Back.calls k a0_0 a0_1 a0_2 t186 t187 t188 _ A7.out).mono ?_
         rintro e w17 ⟨rfl, hb⟩
         refine ⟨_, rfl, ?_⟩
         have n0_ := Za (Xe (g := gb179) (o := .cells #[.int .i64 a0_0, .int .i64 a0_1, .int .i64 a0_2] 23 (0, 0)) (bb_6 BK179.out) hb)
         have n1_ := Za (Xe (g := gb180) (o := .cells #[.int .i64 a1_0, .int .i64 a1_1, .int .i64 a1_2] 23 (0, 0)) (bb_6 BK180.out) hb)
         have n2_ := Za (Xe (g := gb181) (o := .cells #[.int .i64 a2_0, .int .i64 a2_1] 25 (0, 0)) (bb_6 BK181.out) hb)
         have n3_ := Za (Xe (g := gb189) (o := .cells #[.int .i64 0, .int .i64 0, .int .i64 0] 23 (0, 0)) (bb_6 BK189.out) hb)
         have n4_ := Za (Xo (hb_6 HB.out) hb)
         clear BK179
         clear BK180
         clear BK181
         clear BK189
         clear HB
         have BK179 := n0_
         have BK180 := n1_
         have BK181 := n2_
         have BK189 := n3_
         have HB := n4_
         clear n0_ n1_ n2_ n3_ n4_
         (try clear hb)
         (try clear hb2)
         (try clear hk)
         (try clear hi)
         refine hK.out _ _ ⟨(Xd BK179.out 0).trans rfl, (Xd BK179.out 1).trans rfl, (Xd BK179.out 2).trans rfl, (Xd BK180.out 0).trans rfl, (Xd BK180.out 1).trans rfl, (Xd BK180.out 2).trans rfl⟩ (fun hHeld => ?_)
         clear hK K
         refine Xr (a' := ?_) ?_ ?_
         rotate_left
         ·show Act.put _ (some 15) _ = _
          simp only [Act.put, Xa, Xb, Xc, Xf, Xg]
          rfl
         exact Xr (by first | (simp only [Xu, Act.put, Xa, Xb, Xc]; done) | (simp only [Xu, Act.put, Xa, Xb, Xc]; rfl)) (hJ2_4_5 (gb189) _ ⟨hHeld, (bb_6 BK179.out), (bb_6 BK180.out), (bb_6 BK181.out), (bb_6 BK189.out), GW189.out, GE189.out, NB179_189.out, NB189_179.out, NB180_189.out, NB189_180.out, NB181_189.out, NB189_181.out, (hb_6 HB.out)⟩)
        ·skip
         refine box_step ?hg (N := 8) ?hd (cs := #[.int .i64 0, .int .i64 0, .int .i64 0]) (t := 23) ?hr ?_; (case hd => rfl); (case hg => rfl); (case hr => first | (go_simp; done) | (go_simp; rfl))
         intro gb190 hg w17 hbox hb
         have n0_ := Za (Xe (g := gb179) (o := .cells #[.int .i64 a0_0, .int .i64 a0_1, .int .i64 a0_2] 23 (0, 0)) (bb_6 BK179.out) hb)
         have n1_ := Za (Xe (g := gb180) (o := .cells #[.int .i64 a1_0, .int .i64 a1_1, .int .i64 a1_2] 23 (0, 0)) (bb_6 BK180.out) hb)
         have n2_ := Za (Xe (g := gb181) (o := .cells #[.int .i64 a2_0, .int .i64 a2_1] 25 (0, 0)) (bb_6 BK181.out) hb)
         have n3_ := Za (Xe (g := gb189) (o := .cells #[.int .i64 0, .int .i64 0, .int .i64 0] 23 (0, 0)) (bb_6 BK189.out) hb)
         have n4_ := Za (Xo (hb_6 HB.out) hb)
         have n5_ := Za (hbox)
         have n6_ := Za ((by rw [hg]; exact (Xs (hb_6 HB.out)) : w.heap.size ≤ gb190))
         have n7_ := Za ((by rw [hg]; exact (Xs (hb_6 HB.out)) : w.heap.size ≤ gb190))
         have n8_ := Za ((by rw [hg]; exact Nat.ne_of_lt (Xn (g := gb179) (o := .cells #[.int .i64 a0_0, .int .i64 a0_1, .int .i64 a0_2] 23 (0, 0)) (bb_6 BK179.out)) : gb179 ≠ gb190))
         have n9_ := Za ((by rw [hg]; exact Nat.ne_of_gt (Xn (g := gb179) (o := .cells #[.int .i64 a0_0, .int .i64 a0_1, .int .i64 a0_2] 23 (0, 0)) (bb_6 BK179.out)) : gb190 ≠ gb179))
         have n10_ := Za ((by rw [hg]; exact Nat.ne_of_lt (Xn (g := gb180) (o := .cells #[.int .i64 a1_0, .int .i64 a1_1, .int .i64 a1_2] 23 (0, 0)) (bb_6 BK180.out)) : gb180 ≠ gb190))
         have n11_ := Za ((by rw [hg]; exact Nat.ne_of_gt (Xn (g := gb180) (o := .cells #[.int .i64 a1_0, .int .i64 a1_1, .int .i64 a1_2] 23 (0, 0)) (bb_6 BK180.out)) : gb190 ≠ gb180))
         have n12_ := Za ((by rw [hg]; exact Nat.ne_of_lt (Xn (g := gb181) (o := .cells #[.int .i64 a2_0, .int .i64 a2_1] 25 (0, 0)) (bb_6 BK181.out)) : gb181 ≠ gb190))
         have n13_ := Za ((by rw [hg]; exact Nat.ne_of_gt (Xn (g := gb181) (o := .cells #[.int .i64 a2_0, .int .i64 a2_1] 25 (0, 0)) (bb_6 BK181.out)) : gb190 ≠ gb181))
         have n14_ := Za ((by rw [hg]; exact Nat.ne_of_lt (Xn (g := gb189) (o := .cells #[.int .i64 0, .int .i64 0, .int .i64 0] 23 (0, 0)) (bb_6 BK189.out)) : gb189 ≠ gb190))
         have n15_ := Za ((by rw [hg]; exact Nat.ne_of_gt (Xn (g := gb189) (o := .cells #[.int .i64 0, .int .i64 0, .int .i64 0] 23 (0, 0)) (bb_6 BK189.out)) : gb190 ≠ gb189))
         clear BK179
         clear BK180
         clear BK181
         clear BK189
         clear HB
         have BK179 := n0_
         have BK180 := n1_
         have BK181 := n2_
         have BK189 := n3_
         have HB := n4_
         have BK190 := n5_
         have GW190 := n6_
         have GE190 := n7_
         have NB179_190 := n8_
         have NB190_179 := n9_
         have NB180_190 := n10_
         have NB190_180 := n11_
         have NB181_190 := n12_
         have NB190_181 := n13_
         have NB189_190 := n14_
         have NB190_189 := n15_
         clear n0_ n1_ n2_ n3_ n4_ n5_ n6_ n7_ n8_ n9_ n10_ n11_ n12_ n13_ n14_ n15_
         clear hb hbox hg
         refine hK.out _ _ ⟨(Xd BK179.out 0).trans rfl, (Xd BK179.out 1).trans rfl, (Xd BK179.out 2).trans rfl, (Xd BK180.out 0).trans rfl, (Xd BK180.out 1).trans rfl, (Xd BK180.out 2).trans rfl⟩ (fun hHeld => ?_)
         clear hK K
         refine Xr (a' := ?_) ?_ ?_
         rotate_left
         ·show Act.put _ (some 8) _ = _
          simp only [Act.put, Xa, Xb, Xc, Xf, Xg]
          rfl
         exact Xr (by first | (simp only [Xu, Act.put, Xa, Xb, Xc]; done) | (simp only [Xu, Act.put, Xa, Xb, Xc]; rfl)) (hJ2_5_6 (gb189, gb190) _ ⟨hHeld, (bb_6 BK179.out), (bb_6 BK180.out), (bb_6 BK181.out), (bb_6 BK189.out), (bb_6 BK190.out), GW189.out, GE189.out, NB179_189.out, NB189_179.out, NB180_189.out, NB189_180.out, NB181_189.out, NB189_181.out, NB190_189.out, NB189_190.out, GW190.out, GE190.out, NB179_190.out, NB190_179.out, NB180_190.out, NB190_180.out, NB181_190.out, NB190_181.out, (hb_6 HB.out)⟩)
      ·skip
       rintro _ w16 ⟨hS_, h0_, h1_, h2_, h3_⟩
       have n0_ : Xh (w16.heap[gb179]? = some (.cells #[.int .i64 a0_0, .int .i64 a0_1, .int .i64 a0_2] 23 (0, 0))) := ⟨h0_⟩
       have n1_ : Xh (w16.heap[gb180]? = some (.cells #[.int .i64 a1_0, .int .i64 a1_1, .int .i64 a1_2] 23 (0, 0))) := ⟨h1_⟩
       have n2_ : Xh (w16.heap[gb181]? = some (.cells #[.int .i64 a2_0, .int .i64 a2_1] 25 (0, 0))) := ⟨h2_⟩
       have n3_ : Xh (Below w.heap.size w w16) := ⟨h3_⟩
       clear BK179
       clear BK180
       clear BK181
       clear HB
       clear h0_ h1_ h2_ h3_
       have BK179 := n0_
       have BK180 := n1_
       have BK181 := n2_
       have HB := n3_
       clear n0_ n1_ n2_ n3_
       have hHeld : w16.cell? ⟨gb179, 0, none⟩ = some (.int .i64 a0_0) ∧ w16.cell? ⟨gb179, 1, none⟩ = some (.int .i64 a0_1) ∧ w16.cell? ⟨gb179, 2, none⟩ = some (.int .i64 a0_2) ∧ w16.cell? ⟨gb180, 0, none⟩ = some (.int .i64 a1_0) ∧ w16.cell? ⟨gb180, 1, none⟩ = some (.int .i64 a1_1) ∧ w16.cell? ⟨gb180, 2, none⟩ = some (.int .i64 a1_2) := hS_
       refine Xr (a' := ?_) ?_ ?_
       rotate_left
       ·simp only [Xu, Act.put, Xa, Xb, Xc]
        rfl
       refine two_ (i := 5) (j := 6) (Ni := some 7) (Nj := some 8) #[Zt,Zt,Zt,Zt,Zt,Zt,Zf,Zf,Zf] #[Zt,Zt,Zt,Zt,Zt,Zf,Zt,Zf,Zf] rfl rfl rfl rfl (two_of HT_.out (by kernel_rfl)) (by decide) (by decide) (fun K hK => ?_) (fun K hK => ?_)
       ·skip
        refine box_step ?hg (N := 7) ?hd (cs := #[.int .i64 0, .int .i64 0, .int .i64 0]) (t := 23) ?hr ?_; (case hd => rfl); (case hg => rfl); (case hr => first | (go_simp; done) | (go_simp; rfl))
        intro gb189 hg w17 hbox hb
        have n0_ := Za (Xe (g := gb179) (o := .cells #[.int .i64 a0_0, .int .i64 a0_1, .int .i64 a0_2] 23 (0, 0)) (bb_6 BK179.out) hb)
        have n1_ := Za (Xe (g := gb180) (o := .cells #[.int .i64 a1_0, .int .i64 a1_1, .int .i64 a1_2] 23 (0, 0)) (bb_6 BK180.out) hb)
        have n2_ := Za (Xe (g := gb181) (o := .cells #[.int .i64 a2_0, .int .i64 a2_1] 25 (0, 0)) (bb_6 BK181.out) hb)
        have n3_ := Za (Xo (hb_6 HB.out) hb)
        have n4_ := Za (hbox)
        have n5_ := Za ((by rw [hg]; exact (Xs (hb_6 HB.out)) : w.heap.size ≤ gb189))
        have n6_ := Za ((by rw [hg]; exact (Xs (hb_6 HB.out)) : w.heap.size ≤ gb189))
        have n7_ := Za ((by rw [hg]; exact Nat.ne_of_lt (Xn (g := gb179) (o := .cells #[.int .i64 a0_0, .int .i64 a0_1, .int .i64 a0_2] 23 (0, 0)) (bb_6 BK179.out)) : gb179 ≠ gb189))
        have n8_ := Za ((by rw [hg]; exact Nat.ne_of_gt (Xn (g := gb179) (o := .cells #[.int .i64 a0_0, .int .i64 a0_1, .int .i64 a0_2] 23 (0, 0)) (bb_6 BK179.out)) : gb189 ≠ gb179))
        have n9_ := Za ((by rw [hg]; exact Nat.ne_of_lt (Xn (g := gb180) (o := .cells #[.int .i64 a1_0, .int .i64 a1_1, .int .i64 a1_2] 23 (0, 0)) (bb_6 BK180.out)) : gb180 ≠ gb189))
        have n10_ := Za ((by rw [hg]; exact Nat.ne_of_gt (Xn (g := gb180) (o := .cells #[.int .i64 a1_0, .int .i64 a1_1, .int .i64 a1_2] 23 (0, 0)) (bb_6 BK180.out)) : gb189 ≠ gb180))
        have n11_ := Za ((by rw [hg]; exact Nat.ne_of_lt (Xn (g := gb181) (o := .cells #[.int .i64 a2_0, .int .i64 a2_1] 25 (0, 0)) (bb_6 BK181.out)) : gb181 ≠ gb189))
        have n12_ := Za ((by rw [hg]; exact Nat.ne_of_gt (Xn (g := gb181) (o := .cells #[.int .i64 a2_0, .int .i64 a2_1] 25 (0, 0)) (bb_6 BK181.out)) : gb189 ≠ gb181))
        clear BK179
        clear BK180
        clear BK181
        clear HB
        have BK179 := n0_
        have BK180 := n1_
        have BK181 := n2_
        have HB := n3_
        have BK189 := n4_
        have GW189 := n5_
        have GE189 := n6_
        have NB179_189 := n7_
        have NB189_179 := n8_
        have NB180_189 := n9_
        have NB189_180 := n10_
        have NB181_189 := n11_
        have NB189_181 := n12_
        clear n0_ n1_ n2_ n3_ n4_ n5_ n6_ n7_ n8_ n9_ n10_ n11_ n12_
        clear hb hbox hg
        refine hK.out _ _ ⟨(Xd BK179.out 0).trans rfl, (Xd BK179.out 1).trans rfl, (Xd BK179.out 2).trans rfl, (Xd BK180.out 0).trans rfl, (Xd BK180.out 1).trans rfl, (Xd BK180.out 2).trans rfl⟩ (fun hHeld => ?_)
        clear hK K
        refine Xr (a' := ?_) ?_ ?_
        rotate_left
        ·show Act.put _ (some 7) _ = _
         simp only [Act.put, Xa, Xb, Xc, Xf, Xg]
         rfl
        exact Xr (by first | (simp only [Xu, Act.put, Xa, Xb, Xc]; done) | (simp only [Xu, Act.put, Xa, Xb, Xc]; rfl)) (hJ2_4_5 (gb189) _ ⟨hHeld, (bb_6 BK179.out), (bb_6 BK180.out), (bb_6 BK181.out), (bb_6 BK189.out), GW189.out, GE189.out, NB179_189.out, NB189_179.out, NB180_189.out, NB189_180.out, NB181_189.out, NB189_181.out, (hb_6 HB.out)⟩)
       ·skip
        refine box_step ?hg (N := 8) ?hd (cs := #[.int .i64 0, .int .i64 0, .int .i64 0]) (t := 23) ?hr ?_; (case hd => rfl); (case hg => rfl); (case hr => first | (go_simp; done) | (go_simp; rfl))
        intro gb190 hg w17 hbox hb
        have n0_ := Za (Xe (g := gb179) (o := .cells #[.int .i64 a0_0, .int .i64 a0_1, .int .i64 a0_2] 23 (0, 0)) (bb_6 BK179.out) hb)
        have n1_ := Za (Xe (g := gb180) (o := .cells #[.int .i64 a1_0, .int .i64 a1_1, .int .i64 a1_2] 23 (0, 0)) (bb_6 BK180.out) hb)
        have n2_ := Za (Xe (g := gb181) (o := .cells #[.int .i64 a2_0, .int .i64 a2_1] 25 (0, 0)) (bb_6 BK181.out) hb)
        have n3_ := Za (Xo (hb_6 HB.out) hb)
        have n4_ := Za (hbox)
        have n5_ := Za ((by rw [hg]; exact (Xs (hb_6 HB.out)) : w.heap.size ≤ gb190))
        have n6_ := Za ((by rw [hg]; exact (Xs (hb_6 HB.out)) : w.heap.size ≤ gb190))
        have n7_ := Za ((by rw [hg]; exact Nat.ne_of_lt (Xn (g := gb179) (o := .cells #[.int .i64 a0_0, .int .i64 a0_1, .int .i64 a0_2] 23 (0, 0)) (bb_6 BK179.out)) : gb179 ≠ gb190))
        have n8_ := Za ((by rw [hg]; exact Nat.ne_of_gt (Xn (g := gb179) (o := .cells #[.int .i64 a0_0, .int .i64 a0_1, .int .i64 a0_2] 23 (0, 0)) (bb_6 BK179.out)) : gb190 ≠ gb179))
        have n9_ := Za ((by rw [hg]; exact Nat.ne_of_lt (Xn (g := gb180) (o := .cells #[.int .i64 a1_0, .int .i64 a1_1, .int .i64 a1_2] 23 (0, 0)) (bb_6 BK180.out)) : gb180 ≠ gb190))
        have n10_ := Za ((by rw [hg]; exact Nat.ne_of_gt (Xn (g := gb180) (o := .cells #[.int .i64 a1_0, .int .i64 a1_1, .int .i64 a1_2] 23 (0, 0)) (bb_6 BK180.out)) : gb190 ≠ gb180))
        have n11_ := Za ((by rw [hg]; exact Nat.ne_of_lt (Xn (g := gb181) (o := .cells #[.int .i64 a2_0, .int .i64 a2_1] 25 (0, 0)) (bb_6 BK181.out)) : gb181 ≠ gb190))
        have n12_ := Za ((by rw [hg]; exact Nat.ne_of_gt (Xn (g := gb181) (o := .cells #[.int .i64 a2_0, .int .i64 a2_1] 25 (0, 0)) (bb_6 BK181.out)) : gb190 ≠ gb181))
        clear BK179
        clear BK180
        clear BK181
        clear HB
        have BK179 := n0_
        have BK180 := n1_
        have BK181 := n2_
        have HB := n3_
        have BK190 := n4_
        have GW190 := n5_
        have GE190 := n6_
        have NB179_190 := n7_
        have NB190_179 := n8_
        have NB180_190 := n9_
        have NB190_180 := n10_
        have NB181_190 := n11_
        have NB190_181 := n12_
        clear n0_ n1_ n2_ n3_ n4_ n5_ n6_ n7_ n8_ n9_ n10_ n11_ n12_
        clear hb hbox hg
        refine hK.out _ _ ⟨(Xd BK179.out 0).trans rfl, (Xd BK179.out 1).trans rfl, (Xd BK179.out 2).trans rfl, (Xd BK180.out 0).trans rfl, (Xd BK180.out 1).trans rfl, (Xd BK180.out 2).trans rfl⟩ (fun hHeld => ?_)
        clear hK K
        refine Xr (a' := ?_) ?_ ?_
        rotate_left
        ·show Act.put _ (some 8) _ = _
         simp only [Act.put, Xa, Xb, Xc, Xf, Xg]
         rfl
        exact Xr (by first | (simp only [Xu, Act.put, Xa, Xb, Xc]; done) | (simp only [Xu, Act.put, Xa, Xb, Xc]; rfl)) (hJ2_4_6 (gb190) _ ⟨hHeld, (bb_6 BK179.out), (bb_6 BK180.out), (bb_6 BK181.out), (bb_6 BK190.out), GW190.out, GE190.out, NB179_190.out, NB190_179.out, NB180_190.out, NB190_180.out, NB181_190.out, NB190_181.out, (hb_6 HB.out)⟩)
     ·skip
      rintro ⟨gb189, gb190⟩ w17 ⟨hS_, h0_, h1_, h2_, h3_, h4_, h5_, h6_, h7_, h8_, h9_, h10_, h11_, h12_, h13_, h14_, h15_, h16_, h17_, h18_, h19_, h20_, h21_, h22_, h23_⟩
      have n0_ : Xh (w17.heap[gb179]? = some (.cells #[.int .i64 a0_0, .int .i64 a0_1, .int .i64 a0_2] 23 (0, 0))) := ⟨h0_⟩
      have n1_ : Xh (w17.heap[gb180]? = some (.cells #[.int .i64 a1_0, .int .i64 a1_1, .int .i64 a1_2] 23 (0, 0))) := ⟨h1_⟩
      have n2_ : Xh (w17.heap[gb181]? = some (.cells #[.int .i64 a2_0, .int .i64 a2_1] 25 (0, 0))) := ⟨h2_⟩
      have n3_ : Xh (w17.heap[gb189]? = some (.cells #[.int .i64 0, .int .i64 0, .int .i64 0] 23 (0, 0))) := ⟨h3_⟩
      have n4_ : Xh (w17.heap[gb190]? = some (.cells #[.int .i64 0, .int .i64 0, .int .i64 0] 23 (0, 0))) := ⟨h4_⟩
      have n5_ : Xh (w.heap.size ≤ gb189) := ⟨h5_⟩
      have n6_ : Xh (w.heap.size ≤ gb189) := ⟨h6_⟩
      have n7_ : Xh (gb179 ≠ gb189) := ⟨h7_⟩
      have n8_ : Xh (gb189 ≠ gb179) := ⟨h8_⟩
      have n9_ : Xh (gb180 ≠ gb189) := ⟨h9_⟩
      have n10_ : Xh (gb189 ≠ gb180) := ⟨h10_⟩
      have n11_ : Xh (gb181 ≠ gb189) := ⟨h11_⟩
      have n12_ : Xh (gb189 ≠ gb181) := ⟨h12_⟩
      have n13_ : Xh (gb190 ≠ gb189) := ⟨h13_⟩
      have n14_ : Xh (gb189 ≠ gb190) := ⟨h14_⟩
      have n15_ : Xh (w.heap.size ≤ gb190) := ⟨h15_⟩
      have n16_ : Xh (w.heap.size ≤ gb190) := ⟨h16_⟩
      have n17_ : Xh (gb179 ≠ gb190) := ⟨h17_⟩
      have n18_ : Xh (gb190 ≠ gb179) := ⟨h18_⟩
      have n19_ : Xh (gb180 ≠ gb190) := ⟨h19_⟩
      have n20_ : Xh (gb190 ≠ gb180) := ⟨h20_⟩
      have n21_ : Xh (gb181 ≠ gb190) := ⟨h21_⟩
      have n22_ : Xh (gb190 ≠ gb181) := ⟨h22_⟩
      have n23_ : Xh (Below w.heap.size w w17) := ⟨h23_⟩
      clear BK179
      clear BK180
      clear BK181
      clear HB
      clear h0_ h1_ h2_ h3_ h4_ h5_ h6_ h7_ h8_ h9_ h10_ h11_ h12_ h13_ h14_ h15_ h16_ h17_ h18_ h19_ h20_ h21_ h22_ h23_
      have BK179 := n0_
      have BK180 := n1_
      have BK181 := n2_
      have BK189 := n3_
      have BK190 := n4_
      have GW189 := n5_
      have GE189 := n6_
      have NB179_189 := n7_
      have NB189_179 := n8_
      have NB180_189 := n9_
      have NB189_180 := n10_
      have NB181_189 := n11_
      have NB189_181 := n12_
      have NB190_189 := n13_
      have NB189_190 := n14_
      have GW190 := n15_
      have GE190 := n16_
      have NB179_190 := n17_
      have NB190_179 := n18_
      have NB180_190 := n19_
      have NB190_180 := n20_
      have NB181_190 := n21_
      have NB190_181 := n22_
      have HB := n23_
      clear n0_ n1_ n2_ n3_ n4_ n5_ n6_ n7_ n8_ n9_ n10_ n11_ n12_ n13_ n14_ n15_ n16_ n17_ n18_ n19_ n20_ n21_ n22_ n23_
      have hHeld : w17.cell? ⟨gb179, 0, none⟩ = some (.int .i64 a0_0) ∧ w17.cell? ⟨gb179, 1, none⟩ = some (.int .i64 a0_1) ∧ w17.cell? ⟨gb179, 2, none⟩ = some (.int .i64 a0_2) ∧ w17.cell? ⟨gb180, 0, none⟩ = some (.int .i64 a1_0) ∧ w17.cell? ⟨gb180, 1, none⟩ = some (.int .i64 a1_1) ∧ w17.cell? ⟨gb180, 2, none⟩ = some (.int .i64 a1_2) := hS_
      refine Xr (a' := ?_) ?_ ?_
      rotate_left
      ·simp only [Xu, Act.put, Xa, Xb, Xc]
       rfl
      refine one_ (i := 4) (N := some 15) #[Zt,Zt,Zt,Zt,Zt,Zt,Zt,Zf,Zf] rfl rfl (one_of HT_.out (by kernel_rfl)) (by decide) (fun K hK => ?_)
      refine goes_ Try.func54 (by kernel_rfl) rfl #[.agg #[.int .i64 a0_0, .int .i64 a0_1, .int .i64 a0_2]] (by rfl) rfl rfl (by (try simp only [List.map_toArray, List.map_cons, List.map_nil]); first | done | rfl | (simp only [List.length_drop, List.length_take]; rfl)) ?_
      with_reducible refine (place_Back.calls k a0_0 a0_1 a0_2 t186 t187 t188 _ A7.out).mono ?_
      rintro e w18 ⟨rfl, hb⟩
      refine ⟨_, rfl, ?_⟩
      have n0_ := Za (Xe (g := gb179) (o := .cells #[.int .i64 a0_0, .int .i64 a0_1, .int .i64 a0_2] 23 (0, 0)) (bb_6 BK179.out) hb)
      have n1_ := Za (Xe (g := gb180) (o := .cells #[.int .i64 a1_0, .int .i64 a1_1, .int .i64 a1_2] 23 (0, 0)) (bb_6 BK180.out) hb)
      have n2_ := Za (Xe (g := gb181) (o := .cells #[.int .i64 a2_0, .int .i64 a2_1] 25 (0, 0)) (bb_6 BK181.out) hb)
      have n3_ := Za (Xe (g := gb189) (o := .cells #[.int .i64 0, .int .i64 0, .int .i64 0] 23 (0, 0)) (bb_6 BK189.out) hb)
      have n4_ := Za (Xe (g := gb190) (o := .cells #[.int .i64 0, .int .i64 0, .int .i64 0] 23 (0, 0)) (bb_6 BK190.out) hb)
      have n5_ := Za (Xo (hb_6 HB.out) hb)
      clear BK179
      clear BK180
      clear BK181
      clear BK189
      clear BK190
      clear HB
      have BK179 := n0_
      have BK180 := n1_
      have BK181 := n2_
      have BK189 := n3_
      have BK190 := n4_
      have HB := n5_
      clear n0_ n1_ n2_ n3_ n4_ n5_
      (try clear hb)
      (try clear hb2)
      (try clear hk)
      (try clear hi)
      refine hK.out _ _ ⟨(Xd BK179.out 0).trans rfl, (Xd BK179.out 1).trans rfl, (Xd BK179.out 2).trans rfl, (Xd BK180.out 0).trans rfl, (Xd BK180.out 1).trans rfl, (Xd BK180.out 2).trans rfl⟩ (fun hHeld => ?_)
      clear hK K
      refine Xr (a' := ?_) ?_ ?_
      rotate_left
      ·show Act.put _ (some 15) _ = _
       simp only [Act.put, Xa, Xb, Xc, Xf, Xg]
       rfl
      exact Xr (by first | (simp only [Xu, Act.put, Xa, Xb, Xc]; done) | (simp only [Xu, Act.put, Xa, Xb, Xc]; rfl)) (hJ2_4_5_6 (gb189, gb190) _ ⟨hHeld, (bb_6 BK179.out), (bb_6 BK180.out), (bb_6 BK181.out), (bb_6 BK189.out), (bb_6 BK190.out), GW189.out, GE189.out, NB179_189.out, NB189_179.out, NB180_189.out, NB189_180.out, NB181_189.out, NB189_181.out, NB190_189.out, NB189_190.out, GW190.out, GE190.out, NB179_190.out, NB190_179.out, NB180_190.out, NB190_180.out, NB181_190.out, NB190_181.out, (hb_6 HB.out)⟩)
    ·skip
     rintro gb190 w17 ⟨hS_, h0_, h1_, h2_, h3_, h4_, h5_, h6_, h7_, h8_, h9_, h10_, h11_, h12_⟩
     have n0_ : Xh (w17.heap[gb179]? = some (.cells #[.int .i64 a0_0, .int .i64 a0_1, .int .i64 a0_2] 23 (0, 0))) := ⟨h0_⟩
     have n1_ : Xh (w17.heap[gb180]? = some (.cells #[.int .i64 a1_0, .int .i64 a1_1, .int .i64 a1_2] 23 (0, 0))) := ⟨h1_⟩
     have n2_ : Xh (w17.heap[gb181]? = some (.cells #[.int .i64 a2_0, .int .i64 a2_1] 25 (0, 0))) := ⟨h2_⟩
     have n3_ : Xh (w17.heap[gb190]? = some (.cells #[.int .i64 0, .int .i64 0, .int .i64 0] 23 (0, 0))) := ⟨h3_⟩
     have n4_ : Xh (w.heap.size ≤ gb190) := ⟨h4_⟩
     have n5_ : Xh (w.heap.size ≤ gb190) := ⟨h5_⟩
     have n6_ : Xh (gb179 ≠ gb190) := ⟨h6_⟩
     have n7_ : Xh (gb190 ≠ gb179) := ⟨h7_⟩
     have n8_ : Xh (gb180 ≠ gb190) := ⟨h8_⟩
     have n9_ : Xh (gb190 ≠ gb180) := ⟨h9_⟩
     have n10_ : Xh (gb181 ≠ gb190) := ⟨h10_⟩
     have n11_ : Xh (gb190 ≠ gb181) := ⟨h11_⟩
     have n12_ : Xh (Below w.heap.size w w17) := ⟨h12_⟩
     clear BK179
     clear BK180
     clear BK181
     clear HB
     clear h0_ h1_ h2_ h3_ h4_ h5_ h6_ h7_ h8_ h9_ h10_ h11_ h12_
     have BK179 := n0_
     have BK180 := n1_
     have BK181 := n2_
     have BK190 := n3_
     have GW190 := n4_
     have GE190 := n5_
     have NB179_190 := n6_
     have NB190_179 := n7_
     have NB180_190 := n8_
     have NB190_180 := n9_
     have NB181_190 := n10_
     have NB190_181 := n11_
     have HB := n12_
     clear n0_ n1_ n2_ n3_ n4_ n5_ n6_ n7_ n8_ n9_ n10_ n11_ n12_
     have hHeld : w17.cell? ⟨gb179, 0, none⟩ = some (.int .i64 a0_0) ∧ w17.cell? ⟨gb179, 1, none⟩ = some (.int .i64 a0_1) ∧ w17.cell? ⟨gb179, 2, none⟩ = some (.int .i64 a0_2) ∧ w17.cell? ⟨gb180, 0, none⟩ = some (.int .i64 a1_0) ∧ w17.cell? ⟨gb180, 1, none⟩ = some (.int .i64 a1_1) ∧ w17.cell? ⟨gb180, 2, none⟩ = some (.int .i64 a1_2) := hS_
     refine Xr (a' := ?_) ?_ ?_
     rotate_left
     ·simp only [Xu, Act.put, Xa, Xb, Xc]
      rfl
     refine one_ (i := 5) (N := some 7) #[Zt,Zt,Zt,Zt,Zt,Zt,Zt,Zf,Zf] rfl rfl (one_of HT_.out (by kernel_rfl)) (by decide) (fun K hK => ?_)
     refine box_step ?hg (N := 7) ?hd (cs := #[.int .i64 0, .int .i64 0, .int .i64 0]) (t := 23) ?hr ?_; (case hd => rfl); (case hg => rfl); (case hr => first | (go_simp; done) | (go_simp; rfl))
     intro gb189 hg w18 hbox hb
     have n0_ := Za (Xe (g := gb179) (o := .cells #[.int .i64 a0_0, .int .i64 a0_1, .int .i64 a0_2] 23 (0, 0)) (bb_6 BK179.out) hb)
     have n1_ := Za (Xe (g := gb180) (o := .cells #[.int .i64 a1_0, .int .i64 a1_1, .int .i64 a1_2] 23 (0, 0)) (bb_6 BK180.out) hb)
     have n2_ := Za (Xe (g := gb181) (o := .cells #[.int .i64 a2_0, .int .i64 a2_1] 25 (0, 0)) (bb_6 BK181.out) hb)
     have n3_ := Za (Xe (g := gb190) (o := .cells #[.int .i64 0, .int .i64 0, .int .i64 0] 23 (0, 0)) (bb_6 BK190.out) hb)
     have n4_ := Za (Xo (hb_6 HB.out) hb)
     have n5_ := Za (hbox)
     have n6_ := Za ((by rw [hg]; exact (Xs (hb_6 HB.out)) : w.heap.size ≤ gb189))
     have n7_ := Za ((by rw [hg]; exact (Xs (hb_6 HB.out)) : w.heap.size ≤ gb189))
     have n8_ := Za ((by rw [hg]; exact Nat.ne_of_lt (Xn (g := gb179) (o := .cells #[.int .i64 a0_0, .int .i64 a0_1, .int .i64 a0_2] 23 (0, 0)) (bb_6 BK179.out)) : gb179 ≠ gb189))
     have n9_ := Za ((by rw [hg]; exact Nat.ne_of_gt (Xn (g := gb179) (o := .cells #[.int .i64 a0_0, .int .i64 a0_1, .int .i64 a0_2] 23 (0, 0)) (bb_6 BK179.out)) : gb189 ≠ gb179))
     have n10_ := Za ((by rw [hg]; exact Nat.ne_of_lt (Xn (g := gb180) (o := .cells #[.int .i64 a1_0, .int .i64 a1_1, .int .i64 a1_2] 23 (0, 0)) (bb_6 BK180.out)) : gb180 ≠ gb189))
     have n11_ := Za ((by rw [hg]; exact Nat.ne_of_gt (Xn (g := gb180) (o := .cells #[.int .i64 a1_0, .int .i64 a1_1, .int .i64 a1_2] 23 (0, 0)) (bb_6 BK180.out)) : gb189 ≠ gb180))
     have n12_ := Za ((by rw [hg]; exact Nat.ne_of_lt (Xn (g := gb181) (o := .cells #[.int .i64 a2_0, .int .i64 a2_1] 25 (0, 0)) (bb_6 BK181.out)) : gb181 ≠ gb189))
     have n13_ := Za ((by rw [hg]; exact Nat.ne_of_gt (Xn (g := gb181) (o := .cells #[.int .i64 a2_0, .int .i64 a2_1] 25 (0, 0)) (bb_6 BK181.out)) : gb189 ≠ gb181))
     have n14_ := Za ((by rw [hg]; exact Nat.ne_of_lt (Xn (g := gb190) (o := .cells #[.int .i64 0, .int .i64 0, .int .i64 0] 23 (0, 0)) (bb_6 BK190.out)) : gb190 ≠ gb189))
     have n15_ := Za ((by rw [hg]; exact Nat.ne_of_gt (Xn (g := gb190) (o := .cells #[.int .i64 0, .int .i64 0, .int .i64 0] 23 (0, 0)) (bb_6 BK190.out)) : gb189 ≠ gb190))
     clear BK179
     clear BK180
     clear BK181
     clear BK190
     clear HB
     have BK179 := n0_
     have BK180 := n1_
     have BK181 := n2_
     have BK190 := n3_
     have HB := n4_
     have BK189 := n5_
     have GW189 := n6_
     have GE189 := n7_
     have NB179_189 := n8_
     have NB189_179 := n9_
     have NB180_189 := n10_
     have NB189_180 := n11_
     have NB181_189 := n12_
     have NB189_181 := n13_
     have NB190_189 := n14_
     have NB189_190 := n15_
     clear n0_ n1_ n2_ n3_ n4_ n5_ n6_ n7_ n8_ n9_ n10_ n11_ n12_ n13_ n14_ n15_
     clear hb hbox hg
     refine hK.out _ _ ⟨(Xd BK179.out 0).trans rfl, (Xd BK179.out 1).trans rfl, (Xd BK179.out 2).trans rfl, (Xd BK180.out 0).trans rfl, (Xd BK180.out 1).trans rfl, (Xd BK180.out 2).trans rfl⟩ (fun hHeld => ?_)
     clear hK K
     refine Xr (a' := ?_) ?_ ?_
     rotate_left
     ·show Act.put _ (some 7) _ = _
      simp only [Act.put, Xa, Xb, Xc, Xf, Xg]
      rfl
     exact Xr (by first | (simp only [Xu, Act.put, Xa, Xb, Xc]; done) | (simp only [Xu, Act.put, Xa, Xb, Xc]; rfl)) (hJ2_4_5_6 (gb189, gb190) _ ⟨hHeld, (bb_6 BK179.out), (bb_6 BK180.out), (bb_6 BK181.out), (bb_6 BK189.out), (bb_6 BK190.out), GW189.out, GE189.out, NB179_189.out, NB189_179.out, NB180_189.out, NB189_180.out, NB181_189.out, NB189_181.out, NB190_189.out, NB189_190.out, GW190.out, GE190.out, NB179_190.out, NB190_179.out, NB180_190.out, NB190_180.out, NB181_190.out, NB190_181.out, (hb_6 HB.out)⟩)
   ·skip
    rintro gb189 w17 ⟨hS_, h0_, h1_, h2_, h3_, h4_, h5_, h6_, h7_, h8_, h9_, h10_, h11_, h12_⟩
    have n0_ : Xh (w17.heap[gb179]? = some (.cells #[.int .i64 a0_0, .int .i64 a0_1, .int .i64 a0_2] 23 (0, 0))) := ⟨h0_⟩
    have n1_ : Xh (w17.heap[gb180]? = some (.cells #[.int .i64 a1_0, .int .i64 a1_1, .int .i64 a1_2] 23 (0, 0))) := ⟨h1_⟩
    have n2_ : Xh (w17.heap[gb181]? = some (.cells #[.int .i64 a2_0, .int .i64 a2_1] 25 (0, 0))) := ⟨h2_⟩
    have n3_ : Xh (w17.heap[gb189]? = some (.cells #[.int .i64 0, .int .i64 0, .int .i64 0] 23 (0, 0))) := ⟨h3_⟩
    have n4_ : Xh (w.heap.size ≤ gb189) := ⟨h4_⟩
    have n5_ : Xh (w.heap.size ≤ gb189) := ⟨h5_⟩
    have n6_ : Xh (gb179 ≠ gb189) := ⟨h6_⟩
    have n7_ : Xh (gb189 ≠ gb179) := ⟨h7_⟩
    have n8_ : Xh (gb180 ≠ gb189) := ⟨h8_⟩
    have n9_ : Xh (gb189 ≠ gb180) := ⟨h9_⟩
    have n10_ : Xh (gb181 ≠ gb189) := ⟨h10_⟩
    have n11_ : Xh (gb189 ≠ gb181) := ⟨h11_⟩
    have n12_ : Xh (Below w.heap.size w w17) := ⟨h12_⟩
    clear BK179
    clear BK180
    clear BK181
    clear HB
    clear h0_ h1_ h2_ h3_ h4_ h5_ h6_ h7_ h8_ h9_ h10_ h11_ h12_
    have BK179 := n0_
    have BK180 := n1_
    have BK181 := n2_
    have BK189 := n3_
    have GW189 := n4_
    have GE189 := n5_
    have NB179_189 := n6_
    have NB189_179 := n7_
    have NB180_189 := n8_
    have NB189_180 := n9_
    have NB181_189 := n10_
    have NB189_181 := n11_
    have HB := n12_
    clear n0_ n1_ n2_ n3_ n4_ n5_ n6_ n7_ n8_ n9_ n10_ n11_ n12_
    have hHeld : w17.cell? ⟨gb179, 0, none⟩ = some (.int .i64 a0_0) ∧ w17.cell? ⟨gb179, 1, none⟩ = some (.int .i64 a0_1) ∧ w17.cell? ⟨gb179, 2, none⟩ = some (.int .i64 a0_2) ∧ w17.cell? ⟨gb180, 0, none⟩ = some (.int .i64 a1_0) ∧ w17.cell? ⟨gb180, 1, none⟩ = some (.int .i64 a1_1) ∧ w17.cell? ⟨gb180, 2, none⟩ = some (.int .i64 a1_2) := hS_
    refine Xr (a' := ?_) ?_ ?_
    rotate_left
    ·simp only [Xu, Act.put, Xa, Xb, Xc]
     rfl
    refine one_ (i := 6) (N := some 8) #[Zt,Zt,Zt,Zt,Zt,Zt,Zt,Zf,Zf] rfl rfl (one_of HT_.out (by kernel_rfl)) (by decide) (fun K hK => ?_)
    refine box_step ?hg (N := 8) ?hd (cs := #[.int .i64 0, .int .i64 0, .int .i64 0]) (t := 23) ?hr ?_; (case hd => rfl); (case hg => rfl); (case hr => first | (go_simp; done) | (go_simp; rfl))
    intro gb190 hg w18 hbox hb
    have n0_ := Za (Xe (g := gb179) (o := .cells #[.int .i64 a0_0, .int .i64 a0_1, .int .i64 a0_2] 23 (0, 0)) (bb_6 BK179.out) hb)
    have n1_ := Za (Xe (g := gb180) (o := .cells #[.int .i64 a1_0, .int .i64 a1_1, .int .i64 a1_2] 23 (0, 0)) (bb_6 BK180.out) hb)
    have n2_ := Za (Xe (g := gb181) (o := .cells #[.int .i64 a2_0, .int .i64 a2_1] 25 (0, 0)) (bb_6 BK181.out) hb)
    have n3_ := Za (Xe (g := gb189) (o := .cells #[.int .i64 0, .int .i64 0, .int .i64 0] 23 (0, 0)) (bb_6 BK189.out) hb)
    have n4_ := Za (Xo (hb_6 HB.out) hb)
    have n5_ := Za (hbox)
    have n6_ := Za ((by rw [hg]; exact (Xs (hb_6 HB.out)) : w.heap.size ≤ gb190))
    have n7_ := Za ((by rw [hg]; exact (Xs (hb_6 HB.out)) : w.heap.size ≤ gb190))
    have n8_ := Za ((by rw [hg]; exact Nat.ne_of_lt (Xn (g := gb179) (o := .cells #[.int .i64 a0_0, .int .i64 a0_1, .int .i64 a0_2] 23 (0, 0)) (bb_6 BK179.out)) : gb179 ≠ gb190))
    have n9_ := Za ((by rw [hg]; exact Nat.ne_of_gt (Xn (g := gb179) (o := .cells #[.int .i64 a0_0, .int .i64 a0_1, .int .i64 a0_2] 23 (0, 0)) (bb_6 BK179.out)) : gb190 ≠ gb179))
    have n10_ := Za ((by rw [hg]; exact Nat.ne_of_lt (Xn (g := gb180) (o := .cells #[.int .i64 a1_0, .int .i64 a1_1, .int .i64 a1_2] 23 (0, 0)) (bb_6 BK180.out)) : gb180 ≠ gb190))
    have n11_ := Za ((by rw [hg]; exact Nat.ne_of_gt (Xn (g := gb180) (o := .cells #[.int .i64 a1_0, .int .i64 a1_1, .int .i64 a1_2] 23 (0, 0)) (bb_6 BK180.out)) : gb190 ≠ gb180))
    have n12_ := Za ((by rw [hg]; exact Nat.ne_of_lt (Xn (g := gb181) (o := .cells #[.int .i64 a2_0, .int .i64 a2_1] 25 (0, 0)) (bb_6 BK181.out)) : gb181 ≠ gb190))
    have n13_ := Za ((by rw [hg]; exact Nat.ne_of_gt (Xn (g := gb181) (o := .cells #[.int .i64 a2_0, .int .i64 a2_1] 25 (0, 0)) (bb_6 BK181.out)) : gb190 ≠ gb181))
    have n14_ := Za ((by rw [hg]; exact Nat.ne_of_lt (Xn (g := gb189) (o := .cells #[.int .i64 0, .int .i64 0, .int .i64 0] 23 (0, 0)) (bb_6 BK189.out)) : gb189 ≠ gb190))
    have n15_ := Za ((by rw [hg]; exact Nat.ne_of_gt (Xn (g := gb189) (o := .cells #[.int .i64 0, .int .i64 0, .int .i64 0] 23 (0, 0)) (bb_6 BK189.out)) : gb190 ≠ gb189))
    clear BK179
    clear BK180
    clear BK181
    clear BK189
    clear HB
    have BK179 := n0_
    have BK180 := n1_
    have BK181 := n2_
    have BK189 := n3_
    have HB := n4_
    have BK190 := n5_
    have GW190 := n6_
    have GE190 := n7_
    have NB179_190 := n8_
    have NB190_179 := n9_
    have NB180_190 := n10_
    have NB190_180 := n11_
    have NB181_190 := n12_
    have NB190_181 := n13_
    have NB189_190 := n14_
    have NB190_189 := n15_
    clear n0_ n1_ n2_ n3_ n4_ n5_ n6_ n7_ n8_ n9_ n10_ n11_ n12_ n13_ n14_ n15_
    clear hb hbox hg
    refine hK.out _ _ ⟨(Xd BK179.out 0).trans rfl, (Xd BK179.out 1).trans rfl, (Xd BK179.out 2).trans rfl, (Xd BK180.out 0).trans rfl, (Xd BK180.out 1).trans rfl, (Xd BK180.out 2).trans rfl⟩ (fun hHeld => ?_)
    clear hK K
    refine Xr (a' := ?_) ?_ ?_
    rotate_left
    ·show Act.put _ (some 8) _ = _
     simp only [Act.put, Xa, Xb, Xc, Xf, Xg]
     rfl
    exact Xr (by first | (simp only [Xu, Act.put, Xa, Xb, Xc]; done) | (simp only [Xu, Act.put, Xa, Xb, Xc]; rfl)) (hJ2_4_5_6 (gb189, gb190) _ ⟨hHeld, (bb_6 BK179.out), (bb_6 BK180.out), (bb_6 BK181.out), (bb_6 BK189.out), (bb_6 BK190.out), GW189.out, GE189.out, NB179_189.out, NB189_179.out, NB180_189.out, NB189_180.out, NB181_189.out, NB189_181.out, NB190_189.out, NB189_190.out, GW190.out, GE190.out, NB179_190.out, NB190_179.out, NB180_190.out, NB190_180.out, NB181_190.out, NB190_181.out, (hb_6 HB.out)⟩)
  rintro ⟨gb189, gb190⟩ w18 ⟨hS_, h0_, h1_, h2_, h3_, h4_, h5_, h6_, h7_, h8_, h9_, h10_, h11_, h12_, h13_, h14_, h15_, h16_, h17_, h18_, h19_, h20_, h21_, h22_, h23_⟩
  have n0_ : Xh (w18.heap[gb179]? = some (.cells #[.int .i64 a0_0, .int .i64 a0_1, .int .i64 a0_2] 23 (0, 0))) := ⟨h0_⟩
  have n1_ : Xh (w18.heap[gb180]? = some (.cells #[.int .i64 a1_0, .int .i64 a1_1, .int .i64 a1_2] 23 (0, 0))) := ⟨h1_⟩
  have n2_ : Xh (w18.heap[gb181]? = some (.cells #[.int .i64 a2_0, .int .i64 a2_1] 25 (0, 0))) := ⟨h2_⟩
  have n3_ : Xh (w18.heap[gb189]? = some (.cells #[.int .i64 0, .int .i64 0, .int .i64 0] 23 (0, 0))) := ⟨h3_⟩
  have n4_ : Xh (w18.heap[gb190]? = some (.cells #[.int .i64 0, .int .i64 0, .int .i64 0] 23 (0, 0))) := ⟨h4_⟩
  have n5_ : Xh (w.heap.size ≤ gb189) := ⟨h5_⟩
  have n6_ : Xh (w.heap.size ≤ gb189) := ⟨h6_⟩
  have n7_ : Xh (gb179 ≠ gb189) := ⟨h7_⟩
  have n8_ : Xh (gb189 ≠ gb179) := ⟨h8_⟩
  have n9_ : Xh (gb180 ≠ gb189) := ⟨h9_⟩
  have n10_ : Xh (gb189 ≠ gb180) := ⟨h10_⟩
  have n11_ : Xh (gb181 ≠ gb189) := ⟨h11_⟩
  have n12_ : Xh (gb189 ≠ gb181) := ⟨h12_⟩
  have n13_ : Xh (gb190 ≠ gb189) := ⟨h13_⟩
  have n14_ : Xh (gb189 ≠ gb190) := ⟨h14_⟩
  have n15_ : Xh (w.heap.size ≤ gb190) := ⟨h15_⟩
  have n16_ : Xh (w.heap.size ≤ gb190) := ⟨h16_⟩
  have n17_ : Xh (gb179 ≠ gb190) := ⟨h17_⟩
  have n18_ : Xh (gb190 ≠ gb179) := ⟨h18_⟩
  have n19_ : Xh (gb180 ≠ gb190) := ⟨h19_⟩
  have n20_ : Xh (gb190 ≠ gb180) := ⟨h20_⟩
  have n21_ : Xh (gb181 ≠ gb190) := ⟨h21_⟩
  have n22_ : Xh (gb190 ≠ gb181) := ⟨h22_⟩
  have n23_ : Xh (Below w.heap.size w w18) := ⟨h23_⟩
  clear BK179
  clear BK180
  clear BK181
  clear HB
  clear h0_ h1_ h2_ h3_ h4_ h5_ h6_ h7_ h8_ h9_ h10_ h11_ h12_ h13_ h14_ h15_ h16_ h17_ h18_ h19_ h20_ h21_ h22_ h23_
  have BK179 := n0_
  have BK180 := n1_
  have BK181 := n2_
  have BK189 := n3_
  have BK190 := n4_
  have GW189 := n5_
  have GE189 := n6_
  have NB179_189 := n7_
  have NB189_179 := n8_
  have NB180_189 := n9_
  have NB189_180 := n10_
  have NB181_189 := n11_
  have NB189_181 := n12_
  have NB190_189 := n13_
  have NB189_190 := n14_
  have GW190 := n15_
  have GE190 := n16_
  have NB179_190 := n17_
  have NB190_179 := n18_
  have NB180_190 := n19_
  have NB190_180 := n20_
  have NB181_190 := n21_
  have NB190_181 := n22_
  have HB := n23_
  clear n0_ n1_ n2_ n3_ n4_ n5_ n6_ n7_ n8_ n9_ n10_ n11_ n12_ n13_ n14_ n15_ n16_ n17_ n18_ n19_ n20_ n21_ n22_ n23_
  have hHeld : w18.cell? ⟨gb179, 0, none⟩ = some (.int .i64 a0_0) ∧ w18.cell? ⟨gb179, 1, none⟩ = some (.int .i64 a0_1) ∧ w18.cell? ⟨gb179, 2, none⟩ = some (.int .i64 a0_2) ∧ w18.cell? ⟨gb180, 0, none⟩ = some (.int .i64 a1_0) ∧ w18.cell? ⟨gb180, 1, none⟩ = some (.int .i64 a1_1) ∧ w18.cell? ⟨gb180, 2, none⟩ = some (.int .i64 a1_2) := hS_
  refine Xr (a' := ?_) ?_ ?_
  rotate_left
  ·simp only [Xu, Act.put, Xa, Xb, Xc]
   rfl
  refine one_ (i := 7) (N := none) #[Zt,Zt,Zt,Zt,Zt,Zt,Zt,Zt,Zf] rfl rfl (one_of HT_.out (by kernel_rfl)) (by decide) (fun K hK => ?_)
  have hs19 : w18.cell? ⟨gb189, 0, none⟩ = some (.int .i64 0) := (Xd BK189.out 0).trans rfl
  have hfs19 := blk_frozen BK189.out 0
  have hns19_0 := NB179_189.out
  have hns19_1 := NB180_189.out
  have hns19_2 := NB181_189.out
  have hns19_4 := NB190_189.out
  have hms19_0 := NB189_179.out
  have hms19_1 := NB189_180.out
  have hms19_2 := NB189_181.out
  have hms19_4 := NB189_190.out
  have hs20 : w18.cell? ⟨gb189, 1, none⟩ = some (.int .i64 0) := (Xd BK189.out 1).trans rfl
  have hfs20 := blk_frozen BK189.out 1
  have hns20_0 := NB179_189.out
  have hns20_1 := NB180_189.out
  have hns20_2 := NB181_189.out
  have hns20_4 := NB190_189.out
  have hms20_0 := NB189_179.out
  have hms20_1 := NB189_180.out
  have hms20_2 := NB189_181.out
  have hms20_4 := NB189_190.out
  have hs21 : w18.cell? ⟨gb189, 2, none⟩ = some (.int .i64 0) := (Xd BK189.out 2).trans rfl
  have hfs21 := blk_frozen BK189.out 2
  have hns21_0 := NB179_189.out
  have hns21_1 := NB180_189.out
  have hns21_2 := NB181_189.out
  have hns21_4 := NB190_189.out
  have hms21_0 := NB189_179.out
  have hms21_1 := NB189_180.out
  have hms21_2 := NB189_181.out
  have hms21_4 := NB189_190.out
  refine skip_ (w1 := ?_) (by rfl) rfl ?_ ?_
  rotate_left
  ·go_simp
   rfl
  refine hK.out _ _ ⟨((Xv (p := ⟨gb189, _, none⟩) NB179_189.out _).trans (((Xv (p := ⟨gb189, _, none⟩) NB179_189.out _).trans (((Xv (p := ⟨gb189, _, none⟩) NB179_189.out _).trans (hHeld.1)))))), ((Xv (p := ⟨gb189, _, none⟩) NB179_189.out _).trans (((Xv (p := ⟨gb189, _, none⟩) NB179_189.out _).trans (((Xv (p := ⟨gb189, _, none⟩) NB179_189.out _).trans (hHeld.2.1)))))), ((Xv (p := ⟨gb189, _, none⟩) NB179_189.out _).trans (((Xv (p := ⟨gb189, _, none⟩) NB179_189.out _).trans (((Xv (p := ⟨gb189, _, none⟩) NB179_189.out _).trans (hHeld.2.2.1)))))), ((Xv (p := ⟨gb189, _, none⟩) NB180_189.out _).trans (((Xv (p := ⟨gb189, _, none⟩) NB180_189.out _).trans (((Xv (p := ⟨gb189, _, none⟩) NB180_189.out _).trans (hHeld.2.2.2.1)))))), ((Xv (p := ⟨gb189, _, none⟩) NB180_189.out _).trans (((Xv (p := ⟨gb189, _, none⟩) NB180_189.out _).trans (((Xv (p := ⟨gb189, _, none⟩) NB180_189.out _).trans (hHeld.2.2.2.2.1)))))), ((Xv (p := ⟨gb189, _, none⟩) NB180_189.out _).trans (((Xv (p := ⟨gb189, _, none⟩) NB180_189.out _).trans (((Xv (p := ⟨gb189, _, none⟩) NB180_189.out _).trans (hHeld.2.2.2.2.2))))))⟩ (fun hHeld => ?_)
  clear hK K
  refine one_ (i := 8) (N := none) #[Zt,Zt,Zt,Zt,Zt,Zt,Zt,Zt,Zt] rfl rfl (one_of HT_.out (by kernel_rfl)) (by decide) (fun K hK => ?_)
  have hs22 : w18.cell? ⟨gb190, 0, none⟩ = some (.int .i64 0) := (Xd BK190.out 0).trans rfl
  have hfs22 := blk_frozen BK190.out 0
  have hns22_0 := NB179_190.out
  have hns22_1 := NB180_190.out
  have hns22_2 := NB181_190.out
  have hns22_3 := NB189_190.out
  have hms22_0 := NB190_179.out
  have hms22_1 := NB190_180.out
  have hms22_2 := NB190_181.out
  have hms22_3 := NB190_189.out
  have hs23 : w18.cell? ⟨gb190, 1, none⟩ = some (.int .i64 0) := (Xd BK190.out 1).trans rfl
  have hfs23 := blk_frozen BK190.out 1
  have hns23_0 := NB179_190.out
  have hns23_1 := NB180_190.out
  have hns23_2 := NB181_190.out
  have hns23_3 := NB189_190.out
  have hms23_0 := NB190_179.out
  have hms23_1 := NB190_180.out
  have hms23_2 := NB190_181.out
  have hms23_3 := NB190_189.out
  have hs24 : w18.cell? ⟨gb190, 2, none⟩ = some (.int .i64 0) := (Xd BK190.out 2).trans rfl
  have hfs24 := blk_frozen BK190.out 2
  have hns24_0 := NB179_190.out
  have hns24_1 := NB180_190.out
  have hns24_2 := NB181_190.out
  have hns24_3 := NB189_190.out
  have hms24_0 := NB190_179.out
  have hms24_1 := NB190_180.out
  have hms24_2 := NB190_181.out
  have hms24_3 := NB190_189.out
  refine skip_ (w1 := ?_) (by rfl) rfl ?_ ?_
  rotate_left
  ·go_simp
   rfl
  refine hK.out _ _ ⟨((Xv (p := ⟨gb190, _, none⟩) NB179_190.out _).trans (((Xv (p := ⟨gb190, _, none⟩) NB179_190.out _).trans (((Xv (p := ⟨gb190, _, none⟩) NB179_190.out _).trans (hHeld.1)))))), ((Xv (p := ⟨gb190, _, none⟩) NB179_190.out _).trans (((Xv (p := ⟨gb190, _, none⟩) NB179_190.out _).trans (((Xv (p := ⟨gb190, _, none⟩) NB179_190.out _).trans (hHeld.2.1)))))), ((Xv (p := ⟨gb190, _, none⟩) NB179_190.out _).trans (((Xv (p := ⟨gb190, _, none⟩) NB179_190.out _).trans (((Xv (p := ⟨gb190, _, none⟩) NB179_190.out _).trans (hHeld.2.2.1)))))), ((Xv (p := ⟨gb190, _, none⟩) NB180_190.out _).trans (((Xv (p := ⟨gb190, _, none⟩) NB180_190.out _).trans (((Xv (p := ⟨gb190, _, none⟩) NB180_190.out _).trans (hHeld.2.2.2.1)))))), ((Xv (p := ⟨gb190, _, none⟩) NB180_190.out _).trans (((Xv (p := ⟨gb190, _, none⟩) NB180_190.out _).trans (((Xv (p := ⟨gb190, _, none⟩) NB180_190.out _).trans (hHeld.2.2.2.2.1)))))), ((Xv (p := ⟨gb190, _, none⟩) NB180_190.out _).trans (((Xv (p := ⟨gb190, _, none⟩) NB180_190.out _).trans (((Xv (p := ⟨gb190, _, none⟩) NB180_190.out _).trans (hHeld.2.2.2.2.2))))))⟩ (fun hHeld => ?_)
  clear hK K
  refine done_ (done_of HT_.out (by kernel_rfl)) ?_
  go_upto_region 4 with (fail)
  go_cut [31] (fun v31 wc => ∃ (kq : Nat) (x31_7 : Bool), v31 = .bool x31_7 ∧ Xh (gatherumlaw06_PlaceGroup.j0 kq x31_7 a0_0 a0_1 a0_2 a2_0 a2_1 t186 t187 t188 = some r) ∧ Xh (kq ≤ k) ∧ Xh (wc.heap[gb179]? = some (.cells #[.int .i64 a0_0, .int .i64 a0_1, .int .i64 a0_2] 23 (0, 0))) ∧ Xh (wc.heap[gb180]? = some (.cells #[.int .i64 a1_0, .int .i64 a1_1, .int .i64 a1_2] 23 (0, 0))) ∧ Xh (wc.heap[gb181]? = some (.cells #[.int .i64 a2_0, .int .i64 a2_1] 25 (0, 0))) ∧ Xh (wc.heap[gb189]? = some (.cells #[.int .i64 t183, .int .i64 t184, .int .i64 t185] 23 (0, 0))) ∧ Xh (wc.heap[gb190]? = some (.cells #[.int .i64 t186, .int .i64 t187, .int .i64 t188] 23 (0, 0))) ∧ Xh (Below w.heap.size w wc))
  case first =>
   have H := HC8.out
   clear HC8
   replace H := Option.bind_eq_some_iff.mp H
   obtain ⟨⟨t191, t192, t193⟩, A250, H⟩ := H
   replace H : (if (!(t183 == t191) || (!(t184 == t192) || (!(t185 == t193)))) = Zt then (gatherumlaw06_PlaceGroup.j0 k Zt a0_0 a0_1 a0_2 a2_0 a2_1 t186 t187 t188) else ((place_Do.f k t183 t184 t185 a2_0 a2_1).bind fun bt194 => ((place_Do.f k a0_0 a0_1 a0_2 a2_0 a2_1).bind fun bt196 => ((place_Do.f k a1_0 a1_1 a1_2 bt196.1 bt196.2).bind fun bt198 => (gatherumlaw06_PlaceGroup.j0 k (!(bt194.1 == bt198.1) || (!(bt194.2 == bt198.2))) a0_0 a0_1 a0_2 a2_0 a2_1 t186 t187 t188))))) = some r := H
   have A25 := Za A250
   clear A250
   by_cases c26 : (!(t183 == t191) || (!(t184 == t192) || (!(t185 == t193)))) = Zt
   ·rw [if_pos c26] at H
    have c26b0 : (!(t183 == t191) || (!(t184 == t192) || (!(t185 == t193)))) = Zt := c26
    clear c26
    (first | rw [c26b0] | (simp only [Xf, Xg]; rw [c26b0]) | skip)
    have H' := Za H
    clear H
    try go_wp2
    have n0_ : Xh (((((((w18.setCell ⟨gb189, 0, none⟩ (.int .i64 t183)).setCell ⟨gb189, 1, none⟩ (.int .i64 t184)).setCell ⟨gb189, 2, none⟩ (.int .i64 t185)).setCell ⟨gb190, 0, none⟩ (.int .i64 t186)).setCell ⟨gb190, 1, none⟩ (.int .i64 t187)).setCell ⟨gb190, 2, none⟩ (.int .i64 t188)).heap[gb179]? = some (.cells #[.int .i64 a0_0, .int .i64 a0_1, .int .i64 a0_2] 23 (0, 0))) := ⟨by (with_reducible repeat (first | refine Xk ?_ _ | refine Xi ?_ | refine Xl ?_ _)); refine Xt ?_ NB179_190.out _; (with_reducible repeat (first | refine Xk ?_ _ | refine Xi ?_ | refine Xl ?_ _)); refine Xt ?_ NB179_190.out _; (with_reducible repeat (first | refine Xk ?_ _ | refine Xi ?_ | refine Xl ?_ _)); refine Xt ?_ NB179_190.out _; (with_reducible repeat (first | refine Xk ?_ _ | refine Xi ?_ | refine Xl ?_ _)); refine Xt ?_ NB179_189.out _; (with_reducible repeat (first | refine Xk ?_ _ | refine Xi ?_ | refine Xl ?_ _)); refine Xt ?_ NB179_189.out _; (with_reducible repeat (first | refine Xk ?_ _ | refine Xi ?_ | refine Xl ?_ _)); refine Xt ?_ NB179_189.out _; (with_reducible repeat (first | refine Xk ?_ _ | refine Xi ?_ | refine Xl ?_ _)); exact BK179.out⟩
    have n1_ : Xh (((((((w18.setCell ⟨gb189, 0, none⟩ (.int .i64 t183)).setCell ⟨gb189, 1, none⟩ (.int .i64 t184)).setCell ⟨gb189, 2, none⟩ (.int .i64 t185)).setCell ⟨gb190, 0, none⟩ (.int .i64 t186)).setCell ⟨gb190, 1, none⟩ (.int .i64 t187)).setCell ⟨gb190, 2, none⟩ (.int .i64 t188)).heap[gb180]? = some (.cells #[.int .i64 a1_0, .int .i64 a1_1, .int .i64 a1_2] 23 (0, 0))) := ⟨by (with_reducible repeat (first | refine Xk ?_ _ | refine Xi ?_ | refine Xl ?_ _)); refine Xt ?_ NB180_190.out _; (with_reducible repeat (first | refine Xk ?_ _ | refine Xi ?_ | refine Xl ?_ _)); refine Xt ?_ NB180_190.out _; (with_reducible repeat (first | refine Xk ?_ _ | refine Xi ?_ | refine Xl ?_ _)); refine Xt ?_ NB180_190.out _; (with_reducible repeat (first | refine Xk ?_ _ | refine Xi ?_ | refine Xl ?_ _)); refine Xt ?_ NB180_189.out _; (with_reducible repeat (first | refine Xk ?_ _ | refine Xi ?_ | refine Xl ?_ _)); refine Xt ?_ NB180_189.out _; (with_reducible repeat (first | refine Xk ?_ _ | refine Xi ?_ | refine Xl ?_ _)); refine Xt ?_ NB180_189.out _; (with_reducible repeat (first | refine Xk ?_ _ | refine Xi ?_ | refine Xl ?_ _)); exact BK180.out⟩
    have n2_ : Xh (((((((w18.setCell ⟨gb189, 0, none⟩ (.int .i64 t183)).setCell ⟨gb189, 1, none⟩ (.int .i64 t184)).setCell ⟨gb189, 2, none⟩ (.int .i64 t185)).setCell ⟨gb190, 0, none⟩ (.int .i64 t186)).setCell ⟨gb190, 1, none⟩ (.int .i64 t187)).setCell ⟨gb190, 2, none⟩ (.int .i64 t188)).heap[gb181]? = some (.cells #[.int .i64 a2_0, .int .i64 a2_1] 25 (0, 0))) := ⟨by (with_reducible repeat (first | refine Xk ?_ _ | refine Xi ?_ | refine Xl ?_ _)); refine Xt ?_ NB181_190.out _; (with_reducible repeat (first | refine Xk ?_ _ | refine Xi ?_ | refine Xl ?_ _)); refine Xt ?_ NB181_190.out _; (with_reducible repeat (first | refine Xk ?_ _ | refine Xi ?_ | refine Xl ?_ _)); refine Xt ?_ NB181_190.out _; (with_reducible repeat (first | refine Xk ?_ _ | refine Xi ?_ | refine Xl ?_ _)); refine Xt ?_ NB181_189.out _; (with_reducible repeat (first | refine Xk ?_ _ | refine Xi ?_ | refine Xl ?_ _)); refine Xt ?_ NB181_189.out _; (with_reducible repeat (first | refine Xk ?_ _ | refine Xi ?_ | refine Xl ?_ _)); refine Xt ?_ NB181_189.out _; (with_reducible repeat (first | refine Xk ?_ _ | refine Xi ?_ | refine Xl ?_ _)); exact BK181.out⟩
    have n3_ : Xh (((((((w18.setCell ⟨gb189, 0, none⟩ (.int .i64 t183)).setCell ⟨gb189, 1, none⟩ (.int .i64 t184)).setCell ⟨gb189, 2, none⟩ (.int .i64 t185)).setCell ⟨gb190, 0, none⟩ (.int .i64 t186)).setCell ⟨gb190, 1, none⟩ (.int .i64 t187)).setCell ⟨gb190, 2, none⟩ (.int .i64 t188)).heap[gb189]? = some (.cells #[.int .i64 t183, .int .i64 t184, .int .i64 t185] 23 (0, 0))) := ⟨by (with_reducible repeat (first | refine Xk ?_ _ | refine Xi ?_ | refine Xl ?_ _)); refine Xt ?_ NB189_190.out _; (with_reducible repeat (first | refine Xk ?_ _ | refine Xi ?_ | refine Xl ?_ _)); refine Xt ?_ NB189_190.out _; (with_reducible repeat (first | refine Xk ?_ _ | refine Xi ?_ | refine Xl ?_ _)); refine Xt ?_ NB189_190.out _; (with_reducible repeat (first | refine Xk ?_ _ | refine Xi ?_ | refine Xl ?_ _)); refine blk_put (cs := #[.int .i64 t183, .int .i64 t184, .int .i64 0]) ?_ 2 _ rfl; (with_reducible repeat (first | refine Xk ?_ _ | refine Xi ?_ | refine Xl ?_ _)); refine blk_put (cs := #[.int .i64 t183, .int .i64 0, .int .i64 0]) ?_ 1 _ rfl; (with_reducible repeat (first | refine Xk ?_ _ | refine Xi ?_ | refine Xl ?_ _)); refine blk_put (cs := #[.int .i64 0, .int .i64 0, .int .i64 0]) ?_ 0 _ rfl; (with_reducible repeat (first | refine Xk ?_ _ | refine Xi ?_ | refine Xl ?_ _)); exact BK189.out⟩
    have n4_ : Xh (((((((w18.setCell ⟨gb189, 0, none⟩ (.int .i64 t183)).setCell ⟨gb189, 1, none⟩ (.int .i64 t184)).setCell ⟨gb189, 2, none⟩ (.int .i64 t185)).setCell ⟨gb190, 0, none⟩ (.int .i64 t186)).setCell ⟨gb190, 1, none⟩ (.int .i64 t187)).setCell ⟨gb190, 2, none⟩ (.int .i64 t188)).heap[gb190]? = some (.cells #[.int .i64 t186, .int .i64 t187, .int .i64 t188] 23 (0, 0))) := ⟨by (with_reducible repeat (first | refine Xk ?_ _ | refine Xi ?_ | refine Xl ?_ _)); refine blk_put (cs := #[.int .i64 t186, .int .i64 t187, .int .i64 0]) ?_ 2 _ rfl; (with_reducible repeat (first | refine Xk ?_ _ | refine Xi ?_ | refine Xl ?_ _)); refine blk_put (cs := #[.int .i64 t186, .int .i64 0, .int .i64 0]) ?_ 1 _ rfl; (with_reducible repeat (first | refine Xk ?_ _ | refine Xi ?_ | refine Xl ?_ _)); refine blk_put (cs := #[.int .i64 0, .int .i64 0, .int .i64 0]) ?_ 0 _ rfl; (with_reducible repeat (first | refine Xk ?_ _ | refine Xi ?_ | refine Xl ?_ _)); refine Xt ?_ NB190_189.out _; (with_reducible repeat (first | refine Xk ?_ _ | refine Xi ?_ | refine Xl ?_ _)); refine Xt ?_ NB190_189.out _; (with_reducible repeat (first | refine Xk ?_ _ | refine Xi ?_ | refine Xl ?_ _)); refine Xt ?_ NB190_189.out _; (with_reducible repeat (first | refine Xk ?_ _ | refine Xi ?_ | refine Xl ?_ _)); exact BK190.out⟩
    have n5_ : Xh (Below w.heap.size w ((((((w18.setCell ⟨gb189, 0, none⟩ (.int .i64 t183)).setCell ⟨gb189, 1, none⟩ (.int .i64 t184)).setCell ⟨gb189, 2, none⟩ (.int .i64 t185)).setCell ⟨gb190, 0, none⟩ (.int .i64 t186)).setCell ⟨gb190, 1, none⟩ (.int .i64 t187)).setCell ⟨gb190, 2, none⟩ (.int .i64 t188))) := ⟨by repeat (first | (with_reducible first | exact HB.out | apply below_alloc | apply pw_below_drewN | apply below_drew1 | refine Xp ?_ GE179.out | refine Xp ?_ GE180.out | refine Xp ?_ GE181.out | refine Xp ?_ GE189.out | refine Xp ?_ GE190.out) | exact HB.out)⟩
    (try clear BK179)
    (try clear BK180)
    (try clear BK181)
    (try clear BK189)
    (try clear BK190)
    (try clear HB)
    generalize ((((((w18.setCell ⟨gb189, 0, none⟩ (.int .i64 t183)).setCell ⟨gb189, 1, none⟩ (.int .i64 t184)).setCell ⟨gb189, 2, none⟩ (.int .i64 t185)).setCell ⟨gb190, 0, none⟩ (.int .i64 t186)).setCell ⟨gb190, 1, none⟩ (.int .i64 t187)).setCell ⟨gb190, 2, none⟩ (.int .i64 t188)) = w27 at n0_ n1_ n2_ n3_ n4_ n5_ ⊢
    have BK179 := n0_
    have BK180 := n1_
    have BK181 := n2_
    have BK189 := n3_
    have BK190 := n4_
    have HB := n5_
    clear n0_ n1_ n2_ n3_ n4_ n5_
    have n0_ := Za (Xi BK179.out)
    have n1_ := Za (Xi BK180.out)
    have n2_ := Za (Xi BK181.out)
    have n3_ := Za (Xi BK189.out)
    have n4_ := Za (Xi BK190.out)
    have n5_ := Za (below_drew1 HB.out)
    clear BK179
    clear BK180
    clear BK181
    clear BK189
    clear BK190
    clear HB
    have BK179 := n0_
    have BK180 := n1_
    have BK181 := n2_
    have BK189 := n3_
    have BK190 := n4_
    have HB := n5_
    clear n0_ n1_ n2_ n3_ n4_ n5_
    refine start_ (n := 16) (S := fun w' => w'.cell? ⟨gb189, 0, none⟩ = some (.int .i64 t183) ∧ w'.cell? ⟨gb189, 1, none⟩ = some (.int .i64 t184) ∧ w'.cell? ⟨gb189, 2, none⟩ = some (.int .i64 t185) ∧ w'.cell? ⟨gb179, 0, none⟩ = some (.int .i64 a0_0) ∧ w'.cell? ⟨gb179, 1, none⟩ = some (.int .i64 a0_1) ∧ w'.cell? ⟨gb179, 2, none⟩ = some (.int .i64 a0_2) ∧ w'.cell? ⟨gb180, 0, none⟩ = some (.int .i64 a1_0) ∧ w'.cell? ⟨gb180, 1, none⟩ = some (.int .i64 a1_1) ∧ w'.cell? ⟨gb180, 2, none⟩ = some (.int .i64 a1_2)) (ds := []) #[Zf,Zf,Zf,Zf,Zf,Zf,Zf,Zf,Zf,Zf,Zf,Zf,Zf,Zf,Zf,Zf] (by kernel_rfl) rfl rfl ⟨(Xd BK189.out 0).trans rfl, (Xd BK189.out 1).trans rfl, (Xd BK189.out 2).trans rfl, (Xd BK179.out 0).trans rfl, (Xd BK179.out 1).trans rfl, (Xd BK179.out 2).trans rfl, (Xd BK180.out 0).trans rfl, (Xd BK180.out 1).trans rfl, (Xd BK180.out 2).trans rfl⟩ (fun hHeld => ?_); refine with_tabW gatherumlaw06_PlaceGroup.tab4 gatherumlaw06_PlaceGroup.bits4 (fun HT_ HW_ => ?_)
    generalize w27.drew = w28 at BK179 BK180 BK181 BK189 BK190 HB hHeld ⊢
    refine take_ (i := 0) (N := some 16) (v := ?_) (a' := ?_) #[Zt,Zf,Zf,Zf,Zf,Zf,Zf,Zf,Zf,Zf,Zf,Zf,Zf,Zf,Zf,Zf] rfl rfl (Xq HT_.out HW_.out (by kernel_rfl)) (fun _ _ _ h => h) (Or.inl ⟨by rfl, ?_⟩) hHeld ?_ ?_
    rotate_left
    ·rintro w' ⟨s0, s1, s2, s3, s4, s5, s6, s7, s8⟩
     go_simp
     with_reducible rfl
    rotate_left
    ·simp only [Act.put, Xa, Xb, Xc, Xf, Xg]
     rfl
    refine take_ (i := 1) (N := some 17) (v := ?_) (a' := ?_) #[Zt,Zt,Zf,Zf,Zf,Zf,Zf,Zf,Zf,Zf,Zf,Zf,Zf,Zf,Zf,Zf] rfl rfl (Xq HT_.out HW_.out (by kernel_rfl)) (fun _ _ _ h => h) (Or.inl ⟨by rfl, ?_⟩) hHeld ?_ ?_
    rotate_left
    ·rintro w' ⟨s0, s1, s2, s3, s4, s5, s6, s7, s8⟩
     go_simp
     with_reducible rfl
    rotate_left
    ·simp only [Act.put, Xa, Xb, Xc, Xf, Xg]
     rfl
    refine take_ (i := 2) (N := some 18) (v := ?_) (a' := ?_) #[Zt,Zt,Zt,Zf,Zf,Zf,Zf,Zf,Zf,Zf,Zf,Zf,Zf,Zf,Zf,Zf] rfl rfl (Xq HT_.out HW_.out (by kernel_rfl)) (fun _ _ _ h => h) (Or.inl ⟨by rfl, ?_⟩) hHeld ?_ ?_
    rotate_left
    ·rintro w' ⟨s0, s1, s2, s3, s4, s5, s6, s7, s8⟩
     go_simp
     with_reducible rfl
    rotate_left
    ·simp only [Act.put, Xa, Xb, Xc, Xf, Xg]
     rfl
    refine one_ (i := 3) (N := some 19) #[Zt,Zt,Zt,Zt,Zf,Zf,Zf,Zf,Zf,Zf,Zf,Zf,Zf,Zf,Zf,Zf] rfl rfl (one_of HT_.out (by kernel_rfl)) (by decide) (fun K hK => ?_)
    refine goes_ Try.func55 (by kernel_rfl) rfl #[.agg #[.int .i64 a0_0, .int .i64 a0_1, .int .i64 a0_2], .agg #[.int .i64 a1_0, .int .i64 a1_1, .int .i64 a1_2]] (by rfl) rfl rfl (by (try simp only [List.map_toArray, List.map_cons, List.map_nil]); first | done | rfl | (simp only [List.length_drop, List.length_take]; rfl)) ?_
    with_reducible refine (gatherumref04_Then.calls k a0_0 a0_1 a0_2 a1_0 a1_1 a1_2 t191 t192 t193 _ A25.out).mono ?_
    rintro e w29 ⟨rfl, hb⟩
    refine ⟨_, rfl, ?_⟩
    have n0_ := Za (Xe (g := gb179) (o := .cells #[.int .i64 a0_0, .int .i64 a0_1, .int .i64 a0_2] 23 (0, 0)) (bb_6 BK179.out) hb)
    have n1_ := Za (Xe (g := gb180) (o := .cells #[.int .i64 a1_0, .int .i64 a1_1, .int .i64 a1_2] 23 (0, 0)) (bb_6 BK180.out) hb)
    have n2_ := Za (Xe (g := gb181) (o := .cells #[.int .i64 a2_0, .int .i64 a2_1] 25 (0, 0)) (bb_6 BK181.out) hb)
    have n3_ := Za (Xe (g := gb189) (o := .cells #[.int .i64 t183, .int .i64 t184, .int .i64 t185] 23 (0, 0)) (bb_6 BK189.out) hb)
    have n4_ := Za (Xe (g := gb190) (o := .cells #[.int .i64 t186, .int .i64 t187, .int .i64 t188] 23 (0, 0)) (bb_6 BK190.out) hb)
    have n5_ := Za (Xo (hb_6 HB.out) hb)
    clear BK179
    clear BK180
    clear BK181
    clear BK189
    clear BK190
    clear HB
    have BK179 := n0_
    have BK180 := n1_
    have BK181 := n2_
    have BK189 := n3_
    have BK190 := n4_
    have HB := n5_
    clear n0_ n1_ n2_ n3_ n4_ n5_
    (try clear hb)
    (try clear hb2)
    (try clear hk)
    (try clear hi)
    refine hK.out _ _ ⟨(Xd BK189.out 0).trans rfl, (Xd BK189.out 1).trans rfl, (Xd BK189.out 2).trans rfl, (Xd BK179.out 0).trans rfl, (Xd BK179.out 1).trans rfl, (Xd BK179.out 2).trans rfl, (Xd BK180.out 0).trans rfl, (Xd BK180.out 1).trans rfl, (Xd BK180.out 2).trans rfl⟩ (fun hHeld => ?_)
    clear hK K
    refine Xr (a' := ?_) ?_ ?_
    rotate_left
    ·show Act.put _ (some 19) _ = _
     simp only [Act.put, Xa, Xb, Xc, Xf, Xg]
     rfl
    refine Xm (i := 4) (N := some 20) (v := ?_) (a' := ?_) #[Zt,Zt,Zt,Zt,Zt,Zf,Zf,Zf,Zf,Zf,Zf,Zf,Zf,Zf,Zf,Zf] rfl rfl (Xj HT_.out (by kernel_rfl)) (fun _ _ _ h => h) (Or.inl ⟨by rfl, ?_⟩) ?_ ?_
    rotate_left
    ·intro w'
     go_simp
     with_reducible rfl
    rotate_left
    ·simp only [Act.put, Xa, Xb, Xc, Xf, Xg]
     rfl
    refine Xm (i := 5) (N := some 21) (v := ?_) (a' := ?_) #[Zt,Zt,Zt,Zt,Zt,Zt,Zf,Zf,Zf,Zf,Zf,Zf,Zf,Zf,Zf,Zf] rfl rfl (Xj HT_.out (by kernel_rfl)) (fun _ _ _ h => h) (Or.inl ⟨by rfl, ?_⟩) ?_ ?_
    rotate_left
    ·intro w'
     go_simp
     with_reducible rfl
    rotate_left
    ·simp only [Act.put, Xa, Xb, Xc, Xf, Xg]
     rfl
    refine Xm (i := 6) (N := some 22) (v := undef) (a' := ?_) #[Zt,Zt,Zt,Zt,Zt,Zt,Zt,Zf,Zf,Zf,Zf,Zf,Zf,Zf,Zf,Zf] rfl rfl (Xj HT_.out (by kernel_rfl)) (fun _ _ _ h => h) (Or.inr ⟨by rfl, rfl⟩) ?_ ?_
    rotate_left
    ·simp only [Act.put, Xa, Xb, Xc, Xf, Xg]
     rfl
    refine Xm (i := 7) (N := some 23) (v := undef) (a' := ?_) #[Zt,Zt,Zt,Zt,Zt,Zt,Zt,Zt,Zf,Zf,Zf,Zf,Zf,Zf,Zf,Zf] rfl rfl (Xj HT_.out (by kernel_rfl)) (fun _ _ _ h => h) (Or.inr ⟨by rfl, rfl⟩) ?_ ?_
    rotate_left
    ·simp only [Act.put, Xa, Xb, Xc, Xf, Xg]
     rfl
    refine Xm (i := 8) (N := some 24) (v := undef) (a' := ?_) #[Zt,Zt,Zt,Zt,Zt,Zt,Zt,Zt,Zt,Zf,Zf,Zf,Zf,Zf,Zf,Zf] rfl rfl (Xj HT_.out (by kernel_rfl)) (fun _ _ _ h => h) (Or.inr ⟨by rfl, rfl⟩) ?_ ?_
    rotate_left
    ·simp only [Act.put, Xa, Xb, Xc, Xf, Xg]
     rfl
    refine Xm (i := 9) (N := some 25) (v := undef) (a' := ?_) #[Zt,Zt,Zt,Zt,Zt,Zt,Zt,Zt,Zt,Zt,Zf,Zf,Zf,Zf,Zf,Zf] rfl rfl (Xj HT_.out (by kernel_rfl)) (fun _ _ _ h => h) (Or.inr ⟨by rfl, rfl⟩) ?_ ?_
    rotate_left
    ·simp only [Act.put, Xa, Xb, Xc, Xf, Xg]
     rfl
    refine Xm (i := 10) (N := some 26) (v := undef) (a' := ?_) #[Zt,Zt,Zt,Zt,Zt,Zt,Zt,Zt,Zt,Zt,Zt,Zf,Zf,Zf,Zf,Zf] rfl rfl (Xj HT_.out (by kernel_rfl)) (fun _ _ _ h => h) (Or.inr ⟨by rfl, rfl⟩) ?_ ?_
    rotate_left
    ·simp only [Act.put, Xa, Xb, Xc, Xf, Xg]
     rfl
    refine Xm (i := 11) (N := some 27) (v := undef) (a' := ?_) #[Zt,Zt,Zt,Zt,Zt,Zt,Zt,Zt,Zt,Zt,Zt,Zt,Zf,Zf,Zf,Zf] rfl rfl (Xj HT_.out (by kernel_rfl)) (fun _ _ _ h => h) (Or.inr ⟨by rfl, rfl⟩) ?_ ?_
    rotate_left
    ·simp only [Act.put, Xa, Xb, Xc, Xf, Xg]
     rfl
    refine Xm (i := 12) (N := some 28) (v := undef) (a' := ?_) #[Zt,Zt,Zt,Zt,Zt,Zt,Zt,Zt,Zt,Zt,Zt,Zt,Zt,Zf,Zf,Zf] rfl rfl (Xj HT_.out (by kernel_rfl)) (fun _ _ _ h => h) (Or.inr ⟨by rfl, rfl⟩) ?_ ?_
    rotate_left
    ·simp only [Act.put, Xa, Xb, Xc, Xf, Xg]
     rfl
    refine Xm (i := 13) (N := some 29) (v := undef) (a' := ?_) #[Zt,Zt,Zt,Zt,Zt,Zt,Zt,Zt,Zt,Zt,Zt,Zt,Zt,Zt,Zf,Zf] rfl rfl (Xj HT_.out (by kernel_rfl)) (fun _ _ _ h => h) (Or.inr ⟨by rfl, rfl⟩) ?_ ?_
    rotate_left
    ·simp only [Act.put, Xa, Xb, Xc, Xf, Xg]
     rfl
    refine Xm (i := 14) (N := some 30) (v := undef) (a' := ?_) #[Zt,Zt,Zt,Zt,Zt,Zt,Zt,Zt,Zt,Zt,Zt,Zt,Zt,Zt,Zt,Zf] rfl rfl (Xj HT_.out (by kernel_rfl)) (fun _ _ _ h => h) (Or.inr ⟨by rfl, rfl⟩) ?_ ?_
    rotate_left
    ·simp only [Act.put, Xa, Xb, Xc, Xf, Xg]
     rfl
    refine Xm (i := 15) (N := some 31) (v := ?_) (a' := ?_) #[Zt,Zt,Zt,Zt,Zt,Zt,Zt,Zt,Zt,Zt,Zt,Zt,Zt,Zt,Zt,Zt] rfl rfl (Xj HT_.out (by kernel_rfl)) (fun _ _ _ h => h) (Or.inl ⟨by rfl, ?_⟩) ?_ ?_
    rotate_left
    ·intro w'
     go_simp
     with_reducible rfl
    rotate_left
    ·simp only [Act.put, Xa, Xb, Xc, Xf, Xg]
     rfl
    refine done_ (done_of HT_.out (by kernel_rfl)) ?_
    try go_wp2
    go_meet
    case rel => exact ⟨_, (Zt), (by first | rfl | (simp; done) | (simp [*]; done)), H', ⟨by first | omega | exact Nat.le_refl _⟩, ⟨by (with_reducible repeat (first | refine Xk ?_ _ | refine Xi ?_ | refine Xl ?_ _)); exact BK179.out⟩, ⟨by (with_reducible repeat (first | refine Xk ?_ _ | refine Xi ?_ | refine Xl ?_ _)); exact BK180.out⟩, ⟨by (with_reducible repeat (first | refine Xk ?_ _ | refine Xi ?_ | refine Xl ?_ _)); exact BK181.out⟩, ⟨by (with_reducible repeat (first | refine Xk ?_ _ | refine Xi ?_ | refine Xl ?_ _)); exact BK189.out⟩, ⟨by (with_reducible repeat (first | refine Xk ?_ _ | refine Xi ?_ | refine Xl ?_ _)); exact BK190.out⟩, ⟨by repeat (first | (with_reducible first | exact HB.out | apply below_alloc | apply pw_below_drewN | apply below_drew1 | refine Xp ?_ GE179.out | refine Xp ?_ GE180.out | refine Xp ?_ GE181.out | refine Xp ?_ GE189.out | refine Xp ?_ GE190.out) | exact HB.out)⟩⟩
   ·rw [if_neg c26] at H
    have c26b0 : (!(t183 == t191) || (!(t184 == t192) || (!(t185 == t193)))) = Zf := by simpa using c26
    clear c26
    (first | rw [c26b0] | (simp only [Xf, Xg]; rw [c26b0]) | skip)
    replace H := Option.bind_eq_some_iff.mp H
    obtain ⟨⟨t194, t195⟩, A300, H⟩ := H
    replace H : ((place_Do.f k a0_0 a0_1 a0_2 a2_0 a2_1).bind fun bt196 => ((place_Do.f k a1_0 a1_1 a1_2 bt196.1 bt196.2).bind fun bt198 => (gatherumlaw06_PlaceGroup.j0 k (!(t194 == bt198.1) || (!(t195 == bt198.2))) a0_0 a0_1 a0_2 a2_0 a2_1 t186 t187 t188))) = some r := H
    have A30 := Za A300
    clear A300
    replace H := Option.bind_eq_some_iff.mp H
    obtain ⟨⟨t196, t197⟩, A310, H⟩ := H
    replace H : ((place_Do.f k a1_0 a1_1 a1_2 t196 t197).bind fun bt198 => (gatherumlaw06_PlaceGroup.j0 k (!(t194 == bt198.1) || (!(t195 == bt198.2))) a0_0 a0_1 a0_2 a2_0 a2_1 t186 t187 t188)) = some r := H
    have A31 := Za A310
    clear A310
    replace H := Option.bind_eq_some_iff.mp H
    obtain ⟨⟨t198, t199⟩, A320, H⟩ := H
    replace H : (gatherumlaw06_PlaceGroup.j0 k (!(t194 == t198) || (!(t195 == t199))) a0_0 a0_1 a0_2 a2_0 a2_1 t186 t187 t188) = some r := H
    have A32 := Za A320
    clear A320
    have H' := Za H
    clear H
    try go_wp2
    have n0_ : Xh (((((((w18.setCell ⟨gb189, 0, none⟩ (.int .i64 t183)).setCell ⟨gb189, 1, none⟩ (.int .i64 t184)).setCell ⟨gb189, 2, none⟩ (.int .i64 t185)).setCell ⟨gb190, 0, none⟩ (.int .i64 t186)).setCell ⟨gb190, 1, none⟩ (.int .i64 t187)).setCell ⟨gb190, 2, none⟩ (.int .i64 t188)).heap[gb179]? = some (.cells #[.int .i64 a0_0, .int .i64 a0_1, .int .i64 a0_2] 23 (0, 0))) := ⟨by (with_reducible repeat (first | refine Xk ?_ _ | refine Xi ?_ | refine Xl ?_ _)); refine Xt ?_ NB179_190.out _; (with_reducible repeat (first | refine Xk ?_ _ | refine Xi ?_ | refine Xl ?_ _)); refine Xt ?_ NB179_190.out _; (with_reducible repeat (first | refine Xk ?_ _ | refine Xi ?_ | refine Xl ?_ _)); refine Xt ?_ NB179_190.out _; (with_reducible repeat (first | refine Xk ?_ _ | refine Xi ?_ | refine Xl ?_ _)); refine Xt ?_ NB179_189.out _; (with_reducible repeat (first | refine Xk ?_ _ | refine Xi ?_ | refine Xl ?_ _)); refine Xt ?_ NB179_189.out _; (with_reducible repeat (first | refine Xk ?_ _ | refine Xi ?_ | refine Xl ?_ _)); refine Xt ?_ NB179_189.out _; (with_reducible repeat (first | refine Xk ?_ _ | refine Xi ?_ | refine Xl ?_ _)); exact BK179.out⟩
    have n1_ : Xh (((((((w18.setCell ⟨gb189, 0, none⟩ (.int .i64 t183)).setCell ⟨gb189, 1, none⟩ (.int .i64 t184)).setCell ⟨gb189, 2, none⟩ (.int .i64 t185)).setCell ⟨gb190, 0, none⟩ (.int .i64 t186)).setCell ⟨gb190, 1, none⟩ (.int .i64 t187)).setCell ⟨gb190, 2, none⟩ (.int .i64 t188)).heap[gb180]? = some (.cells #[.int .i64 a1_0, .int .i64 a1_1, .int .i64 a1_2] 23 (0, 0))) := ⟨by (with_reducible repeat (first | refine Xk ?_ _ | refine Xi ?_ | refine Xl ?_ _)); refine Xt ?_ NB180_190.out _; (with_reducible repeat (first | refine Xk ?_ _ | refine Xi ?_ | refine Xl ?_ _)); refine Xt ?_ NB180_190.out _; (with_reducible repeat (first | refine Xk ?_ _ | refine Xi ?_ | refine Xl ?_ _)); refine Xt ?_ NB180_190.out _; (with_reducible repeat (first | refine Xk ?_ _ | refine Xi ?_ | refine Xl ?_ _)); refine Xt ?_ NB180_189.out _; (with_reducible repeat (first | refine Xk ?_ _ | refine Xi ?_ | refine Xl ?_ _)); refine Xt ?_ NB180_189.out _; (with_reducible repeat (first | refine Xk ?_ _ | refine Xi ?_ | refine Xl ?_ _)); refine Xt ?_ NB180_189.out _; (with_reducible repeat (first | refine Xk ?_ _ | refine Xi ?_ | refine Xl ?_ _)); exact BK180.out⟩
    have n2_ : Xh (((((((w18.setCell ⟨gb189, 0, none⟩ (.int .i64 t183)).setCell ⟨gb189, 1, none⟩ (.int .i64 t184)).setCell ⟨gb189, 2, none⟩ (.int .i64 t185)).setCell ⟨gb190, 0, none⟩ (.int .i64 t186)).setCell ⟨gb190, 1, none⟩ (.int .i64 t187)).setCell ⟨gb190, 2, none⟩ (.int .i64 t188)).heap[gb181]? = some (.cells #[.int .i64 a2_0, .int .i64 a2_1] 25 (0, 0))) := ⟨by (with_reducible repeat (first | refine Xk ?_ _ | refine Xi ?_ | refine Xl ?_ _)); refine Xt ?_ NB181_190.out _; (with_reducible repeat (first | refine Xk ?_ _ | refine Xi ?_ | refine Xl ?_ _)); refine Xt ?_ NB181_190.out _; (with_reducible repeat (first | refine Xk ?_ _ | refine Xi ?_ | refine Xl ?_ _)); refine Xt ?_ NB181_190.out _; (with_reducible repeat (first | refine Xk ?_ _ | refine Xi ?_ | refine Xl ?_ _)); refine Xt ?_ NB181_189.out _; (with_reducible repeat (first | refine Xk ?_ _ | refine Xi ?_ | refine Xl ?_ _)); refine Xt ?_ NB181_189.out _; (with_reducible repeat (first | refine Xk ?_ _ | refine Xi ?_ | refine Xl ?_ _)); refine Xt ?_ NB181_189.out _; (with_reducible repeat (first | refine Xk ?_ _ | refine Xi ?_ | refine Xl ?_ _)); exact BK181.out⟩
    have n3_ : Xh (((((((w18.setCell ⟨gb189, 0, none⟩ (.int .i64 t183)).setCell ⟨gb189, 1, none⟩ (.int .i64 t184)).setCell ⟨gb189, 2, none⟩ (.int .i64 t185)).setCell ⟨gb190, 0, none⟩ (.int .i64 t186)).setCell ⟨gb190, 1, none⟩ (.int .i64 t187)).setCell ⟨gb190, 2, none⟩ (.int .i64 t188)).heap[gb189]? = some (.cells #[.int .i64 t183, .int .i64 t184, .int .i64 t185] 23 (0, 0))) := ⟨by (with_reducible repeat (first | refine Xk ?_ _ | refine Xi ?_ | refine Xl ?_ _)); refine Xt ?_ NB189_190.out _; (with_reducible repeat (first | refine Xk ?_ _ | refine Xi ?_ | refine Xl ?_ _)); refine Xt ?_ NB189_190.out _; (with_reducible repeat (first | refine Xk ?_ _ | refine Xi ?_ | refine Xl ?_ _)); refine Xt ?_ NB189_190.out _; (with_reducible repeat (first | refine Xk ?_ _ | refine Xi ?_ | refine Xl ?_ _)); refine blk_put (cs := #[.int .i64 t183, .int .i64 t184, .int .i64 0]) ?_ 2 _ rfl; (with_reducible repeat (first | refine Xk ?_ _ | refine Xi ?_ | refine Xl ?_ _)); refine blk_put (cs := #[.int .i64 t183, .int .i64 0, .int .i64 0]) ?_ 1 _ rfl; (with_reducible repeat (first | refine Xk ?_ _ | refine Xi ?_ | refine Xl ?_ _)); refine blk_put (cs := #[.int .i64 0, .int .i64 0, .int .i64 0]) ?_ 0 _ rfl; (with_reducible repeat (first | refine Xk ?_ _ | refine Xi ?_ | refine Xl ?_ _)); exact BK189.out⟩
    have n4_ : Xh (((((((w18.setCell ⟨gb189, 0, none⟩ (.int .i64 t183)).setCell ⟨gb189, 1, none⟩ (.int .i64 t184)).setCell ⟨gb189, 2, none⟩ (.int .i64 t185)).setCell ⟨gb190, 0, none⟩ (.int .i64 t186)).setCell ⟨gb190, 1, none⟩ (.int .i64 t187)).setCell ⟨gb190, 2, none⟩ (.int .i64 t188)).heap[gb190]? = some (.cells #[.int .i64 t186, .int .i64 t187, .int .i64 t188] 23 (0, 0))) := ⟨by (with_reducible repeat (first | refine Xk ?_ _ | refine Xi ?_ | refine Xl ?_ _)); refine blk_put (cs := #[.int .i64 t186, .int .i64 t187, .int .i64 0]) ?_ 2 _ rfl; (with_reducible repeat (first | refine Xk ?_ _ | refine Xi ?_ | refine Xl ?_ _)); refine blk_put (cs := #[.int .i64 t186, .int .i64 0, .int .i64 0]) ?_ 1 _ rfl; (with_reducible repeat (first | refine Xk ?_ _ | refine Xi ?_ | refine Xl ?_ _)); refine blk_put (cs := #[.int .i64 0, .int .i64 0, .int .i64 0]) ?_ 0 _ rfl; (with_reducible repeat (first | refine Xk ?_ _ | refine Xi ?_ | refine Xl ?_ _)); refine Xt ?_ NB190_189.out _; (with_reducible repeat (first | refine Xk ?_ _ | refine Xi ?_ | refine Xl ?_ _)); refine Xt ?_ NB190_189.out _; (with_reducible repeat (first | refine Xk ?_ _ | refine Xi ?_ | refine Xl ?_ _)); refine Xt ?_ NB190_189.out _; (with_reducible repeat (first | refine Xk ?_ _ | refine Xi ?_ | refine Xl ?_ _)); exact BK190.out⟩
    have n5_ : Xh (Below w.heap.size w ((((((w18.setCell ⟨gb189, 0, none⟩ (.int .i64 t183)).setCell ⟨gb189, 1, none⟩ (.int .i64 t184)).setCell ⟨gb189, 2, none⟩ (.int .i64 t185)).setCell ⟨gb190, 0, none⟩ (.int .i64 t186)).setCell ⟨gb190, 1, none⟩ (.int .i64 t187)).setCell ⟨gb190, 2, none⟩ (.int .i64 t188))) := ⟨by repeat (first | (with_reducible first | exact HB.out | apply below_alloc | apply pw_below_drewN | apply below_drew1 | refine Xp ?_ GE179.out | refine Xp ?_ GE180.out | refine Xp ?_ GE181.out | refine Xp ?_ GE189.out | refine Xp ?_ GE190.out) | exact HB.out)⟩
    (try clear BK179)
    (try clear BK180)
    (try clear BK181)
    (try clear BK189)
    (try clear BK190)
    (try clear HB)
    generalize ((((((w18.setCell ⟨gb189, 0, none⟩ (.int .i64 t183)).setCell ⟨gb189, 1, none⟩ (.int .i64 t184)).setCell ⟨gb189, 2, none⟩ (.int .i64 t185)).setCell ⟨gb190, 0, none⟩ (.int .i64 t186)).setCell ⟨gb190, 1, none⟩ (.int .i64 t187)).setCell ⟨gb190, 2, none⟩ (.int .i64 t188)) = w33 at n0_ n1_ n2_ n3_ n4_ n5_ ⊢
    have BK179 := n0_
    have BK180 := n1_
    have BK181 := n2_
    have BK189 := n3_
    have BK190 := n4_
    have HB := n5_
    clear n0_ n1_ n2_ n3_ n4_ n5_
    have n0_ := Za (Xi BK179.out)
    have n1_ := Za (Xi BK180.out)
    have n2_ := Za (Xi BK181.out)
    have n3_ := Za (Xi BK189.out)
    have n4_ := Za (Xi BK190.out)
    have n5_ := Za (below_drew1 HB.out)
    clear BK179
    clear BK180
    clear BK181
    clear BK189
    clear BK190
    clear HB
    have BK179 := n0_
    have BK180 := n1_
    have BK181 := n2_
    have BK189 := n3_
    have BK190 := n4_
    have HB := n5_
    clear n0_ n1_ n2_ n3_ n4_ n5_
    refine start_ (n := 16) (S := fun w' => w'.cell? ⟨gb189, 0, none⟩ = some (.int .i64 t183) ∧ w'.cell? ⟨gb189, 1, none⟩ = some (.int .i64 t184) ∧ w'.cell? ⟨gb189, 2, none⟩ = some (.int .i64 t185) ∧ w'.cell? ⟨gb179, 0, none⟩ = some (.int .i64 a0_0) ∧ w'.cell? ⟨gb179, 1, none⟩ = some (.int .i64 a0_1) ∧ w'.cell? ⟨gb179, 2, none⟩ = some (.int .i64 a0_2) ∧ w'.cell? ⟨gb180, 0, none⟩ = some (.int .i64 a1_0) ∧ w'.cell? ⟨gb180, 1, none⟩ = some (.int .i64 a1_1) ∧ w'.cell? ⟨gb180, 2, none⟩ = some (.int .i64 a1_2) ∧ w'.cell? ⟨gb181, 0, none⟩ = some (.int .i64 a2_0) ∧ w'.cell? ⟨gb181, 1, none⟩ = some (.int .i64 a2_1)) (ds := []) #[Zf,Zf,Zf,Zf,Zf,Zf,Zf,Zf,Zf,Zf,Zf,Zf,Zf,Zf,Zf,Zf] (by kernel_rfl) rfl rfl ⟨(Xd BK189.out 0).trans rfl, (Xd BK189.out 1).trans rfl, (Xd BK189.out 2).trans rfl, (Xd BK179.out 0).trans rfl, (Xd BK179.out 1).trans rfl, (Xd BK179.out 2).trans rfl, (Xd BK180.out 0).trans rfl, (Xd BK180.out 1).trans rfl, (Xd BK180.out 2).trans rfl, (Xd BK181.out 0).trans rfl, (Xd BK181.out 1).trans rfl⟩ (fun hHeld => ?_); refine with_tabW gatherumlaw06_PlaceGroup.tab4 gatherumlaw06_PlaceGroup.bits4 (fun HT_ HW_ => ?_)
    generalize w33.drew = w34 at BK179 BK180 BK181 BK189 BK190 HB hHeld ⊢
    refine take_ (i := 0) (N := some 16) (v := ?_) (a' := ?_) #[Zt,Zf,Zf,Zf,Zf,Zf,Zf,Zf,Zf,Zf,Zf,Zf,Zf,Zf,Zf,Zf] rfl rfl (Xq HT_.out HW_.out (by kernel_rfl)) (fun _ _ _ h => h) (Or.inl ⟨by rfl, ?_⟩) hHeld ?_ ?_
    rotate_left
    ·rintro w' ⟨s0, s1, s2, s3, s4, s5, s6, s7, s8, s9, s10⟩
     go_simp
     with_reducible rfl
    rotate_left
    ·simp only [Act.put, Xa, Xb, Xc, Xf, Xg]
     rfl
    refine take_ (i := 1) (N := some 17) (v := ?_) (a' := ?_) #[Zt,Zt,Zf,Zf,Zf,Zf,Zf,Zf,Zf,Zf,Zf,Zf,Zf,Zf,Zf,Zf] rfl rfl (Xq HT_.out HW_.out (by kernel_rfl)) (fun _ _ _ h => h) (Or.inl ⟨by rfl, ?_⟩) hHeld ?_ ?_
    rotate_left
    ·rintro w' ⟨s0, s1, s2, s3, s4, s5, s6, s7, s8, s9, s10⟩
     go_simp
     with_reducible rfl
    rotate_left
    ·simp only [Act.put, Xa, Xb, Xc, Xf, Xg]
     rfl
    refine take_ (i := 2) (N := some 18) (v := ?_) (a' := ?_) #[Zt,Zt,Zt,Zf,Zf,Zf,Zf,Zf,Zf,Zf,Zf,Zf,Zf,Zf,Zf,Zf] rfl rfl (Xq HT_.out HW_.out (by kernel_rfl)) (fun _ _ _ h => h) (Or.inl ⟨by rfl, ?_⟩) hHeld ?_ ?_
    rotate_left
    ·rintro w' ⟨s0, s1, s2, s3, s4, s5, s6, s7, s8, s9, s10⟩
     go_simp
     with_reducible rfl
    rotate_left
    ·simp only [Act.put, Xa, Xb, Xc, Xf, Xg]
     rfl
    refine one_ (i := 3) (N := some 19) #[Zt,Zt,Zt,Zt,Zf,Zf,Zf,Zf,Zf,Zf,Zf,Zf,Zf,Zf,Zf,Zf] rfl rfl (one_of HT_.out (by kernel_rfl)) (by decide) (fun K hK => ?_)
    refine goes_ Try.func55 (by kernel_rfl) rfl #[.agg #[.int .i64 a0_0, .int .i64 a0_1, .int .i64 a0_2], .agg #[.int .i64 a1_0, .int .i64 a1_1, .int .i64 a1_2]] (by rfl) rfl rfl (by (try simp only [List.map_toArray, List.map_cons, List.map_nil]); first | done | rfl | (simp only [List.length_drop, List.length_take]; rfl)) ?_
    with_reducible refine (gatherumref04_Then.calls k a0_0 a0_1 a0_2 a1_0 a1_1 a1_2 t191 t192 t193 _ A25.out).mono ?_
    rintro e w35 ⟨rfl, hb⟩
    refine ⟨_, rfl, ?_⟩
    have n0_ := Za (Xe (g := gb179) (o := .cells #[.int .i64 a0_0, .int .i64 a0_1, .int .i64 a0_2] 23 (0, 0)) (bb_6 BK179.out) hb)
    have n1_ := Za (Xe (g := gb180) (o := .cells #[.int .i64 a1_0, .int .i64 a1_1, .int .i64 a1_2] 23 (0, 0)) (bb_6 BK180.out) hb)
    have n2_ := Za (Xe (g := gb181) (o := .cells #[.int .i64 a2_0, .int .i64 a2_1] 25 (0, 0)) (bb_6 BK181.out) hb)
    have n3_ := Za (Xe (g := gb189) (o := .cells #[.int .i64 t183, .int .i64 t184, .int .i64 t185] 23 (0, 0)) (bb_6 BK189.out) hb)
    have n4_ := Za (Xe (g := gb190) (o := .cells #[.int .i64 t186, .int .i64 t187, .int .i64 t188] 23 (0, 0)) (bb_6 BK190.out) hb)
    have n5_ := Za (Xo (hb_6 HB.out) hb)
    clear BK179
    clear BK180
    clear BK181
    clear BK189
    clear BK190
    clear HB
    have BK179 := n0_
    have BK180 := n1_
    have BK181 := n2_
    have BK189 := n3_
    have BK190 := n4_
    have HB := n5_
    clear n0_ n1_ n2_ n3_ n4_ n5_
    (try clear hb)
    (try clear hb2)
    (try clear hk)
    (try clear hi)
    refine hK.out _ _ ⟨(Xd BK189.out 0).trans rfl, (Xd BK189.out 1).trans rfl, (Xd BK189.out 2).trans rfl, (Xd BK179.out 0).trans rfl, (Xd BK179.out 1).trans rfl, (Xd BK179.out 2).trans rfl, (Xd BK180.out 0).trans rfl, (Xd BK180.out 1).trans rfl, (Xd BK180.out 2).trans rfl, (Xd BK181.out 0).trans rfl, (Xd BK181.out 1).trans rfl⟩ (fun hHeld => ?_)
    clear hK K
    refine Xr (a' := ?_) ?_ ?_
    rotate_left
    ·show Act.put _ (some 19) _ = _
     simp only [Act.put, Xa, Xb, Xc, Xf, Xg]
     rfl
    refine Xm (i := 4) (N := some 20) (v := ?_) (a' := ?_) #[Zt,Zt,Zt,Zt,Zt,Zf,Zf,Zf,Zf,Zf,Zf,Zf,Zf,Zf,Zf,Zf] rfl rfl (Xj HT_.out (by kernel_rfl)) (fun _ _ _ h => h) (Or.inl ⟨by rfl, ?_⟩) ?_ ?_
    rotate_left
    ·intro w'
     go_simp
     with_reducible rfl
    rotate_left
    ·simp only [Act.put, Xa, Xb, Xc, Xf, Xg]
     rfl
    refine Xm (i := 5) (N := some 21) (v := ?_) (a' := ?_) #[Zt,Zt,Zt,Zt,Zt,Zt,Zf,Zf,Zf,Zf,Zf,Zf,Zf,Zf,Zf,Zf] rfl rfl (Xj HT_.out (by kernel_rfl)) (fun _ _ _ h => h) (Or.inl ⟨by rfl, ?_⟩) ?_ ?_
    rotate_left
    ·intro w'
     go_simp
     with_reducible rfl
    rotate_left
    ·simp only [Act.put, Xa, Xb, Xc, Xf, Xg]
     rfl
    refine take_ (i := 6) (N := some 22) (v := ?_) (a' := ?_) #[Zt,Zt,Zt,Zt,Zt,Zt,Zt,Zf,Zf,Zf,Zf,Zf,Zf,Zf,Zf,Zf] rfl rfl (Xq HT_.out HW_.out (by kernel_rfl)) (fun _ _ _ h => h) (Or.inl ⟨by rfl, ?_⟩) hHeld ?_ ?_
    rotate_left
    ·rintro w' ⟨s0, s1, s2, s3, s4, s5, s6, s7, s8, s9, s10⟩
     go_simp
     with_reducible rfl
    rotate_left
    ·simp only [Act.put, Xa, Xb, Xc, Xf, Xg]
     rfl
    refine take_ (i := 7) (N := some 23) (v := ?_) (a' := ?_) #[Zt,Zt,Zt,Zt,Zt,Zt,Zt,Zt,Zf,Zf,Zf,Zf,Zf,Zf,Zf,Zf] rfl rfl (Xq HT_.out HW_.out (by kernel_rfl)) (fun _ _ _ h => h) (Or.inl ⟨by rfl, ?_⟩) hHeld ?_ ?_
    rotate_left
    ·rintro w' ⟨s0, s1, s2, s3, s4, s5, s6, s7, s8, s9, s10⟩
     go_simp
     with_reducible rfl
    rotate_left
    ·simp only [Act.put, Xa, Xb, Xc, Xf, Xg]
     rfl
    refine take_ (i := 9) (N := some 25) (v := ?_) (a' := ?_) #[Zt,Zt,Zt,Zt,Zt,Zt,Zt,Zt,Zf,Zt,Zf,Zf,Zf,Zf,Zf,Zf] rfl rfl (Xq HT_.out HW_.out (by kernel_rfl)) (fun _ _ _ h => h) (Or.inl ⟨by rfl, ?_⟩) hHeld ?_ ?_
    rotate_left
    ·rintro w' ⟨s0, s1, s2, s3, s4, s5, s6, s7, s8, s9, s10⟩
     go_simp
     with_reducible rfl
    rotate_left
    ·simp only [Act.put, Xa, Xb, Xc, Xf, Xg]
     rfl
    refine take_ (i := 10) (N := some 26) (v := ?_) (a' := ?_) #[Zt,Zt,Zt,Zt,Zt,Zt,Zt,Zt,Zf,Zt,Zt,Zf,Zf,Zf,Zf,Zf] rfl rfl (Xq HT_.out HW_.out (by kernel_rfl)) (fun _ _ _ h => h) (Or.inl ⟨by rfl, ?_⟩) hHeld ?_ ?_
    rotate_left
    ·rintro w' ⟨s0, s1, s2, s3, s4, s5, s6, s7, s8, s9, s10⟩
     go_simp
     with_reducible rfl
    rotate_left
    ·simp only [Act.put, Xa, Xb, Xc, Xf, Xg]
     rfl
    refine take_ (i := 11) (N := some 27) (v := ?_) (a' := ?_) #[Zt,Zt,Zt,Zt,Zt,Zt,Zt,Zt,Zf,Zt,Zt,Zt,Zf,Zf,Zf,Zf] rfl rfl (Xq HT_.out HW_.out (by kernel_rfl)) (fun _ _ _ h => h) (Or.inl ⟨by rfl, ?_⟩) hHeld ?_ ?_
    rotate_left
    ·rintro w' ⟨s0, s1, s2, s3, s4, s5, s6, s7, s8, s9, s10⟩
     go_simp
     with_reducible rfl
    rotate_left
    ·simp only [Act.put, Xa, Xb, Xc, Xf, Xg]
     rfl
    refine one_ (i := 8) (N := some 24) #[Zt,Zt,Zt,Zt,Zt,Zt,Zt,Zt,Zt,Zt,Zt,Zt,Zf,Zf,Zf,Zf] rfl rfl (one_of HT_.out (by kernel_rfl)) (by decide) (fun K hK => ?_)
    refine goes_ Try.func15 (by kernel_rfl) rfl #[.agg #[.int .i64 t183, .int .i64 t184, .int .i64 t185], .agg #[.int .i64 a2_0, .int .i64 a2_1]] (by rfl) rfl rfl (by (try simp only [List.map_toArray, List.map_cons, List.map_nil]); first | done | rfl | (simp only [List.length_drop, List.length_take]; rfl)) ?_
    with_reducible refine (place_Do.calls k t183 t184 t185 a2_0 a2_1 t194 t195 _ A30.out).mono ?_
    rintro e w36 ⟨rfl, hb⟩
    refine ⟨_, rfl, ?_⟩
    have n0_ := Za (Xe (g := gb179) (o := .cells #[.int .i64 a0_0, .int .i64 a0_1, .int .i64 a0_2] 23 (0, 0)) (bb_6 BK179.out) hb)
    have n1_ := Za (Xe (g := gb180) (o := .cells #[.int .i64 a1_0, .int .i64 a1_1, .int .i64 a1_2] 23 (0, 0)) (bb_6 BK180.out) hb)
    have n2_ := Za (Xe (g := gb181) (o := .cells #[.int .i64 a2_0, .int .i64 a2_1] 25 (0, 0)) (bb_6 BK181.out) hb)
    have n3_ := Za (Xe (g := gb189) (o := .cells #[.int .i64 t183, .int .i64 t184, .int .i64 t185] 23 (0, 0)) (bb_6 BK189.out) hb)
    have n4_ := Za (Xe (g := gb190) (o := .cells #[.int .i64 t186, .int .i64 t187, .int .i64 t188] 23 (0, 0)) (bb_6 BK190.out) hb)
    have n5_ := Za (Xo (hb_6 HB.out) hb)
    clear BK179
    clear BK180
    clear BK181
    clear BK189
    clear BK190
    clear HB
    have BK179 := n0_
    have BK180 := n1_
    have BK181 := n2_
    have BK189 := n3_
    have BK190 := n4_
    have HB := n5_
    clear n0_ n1_ n2_ n3_ n4_ n5_
    (try clear hb)
    (try clear hb2)
    (try clear hk)
    (try clear hi)
    refine hK.out _ _ ⟨(Xd BK189.out 0).trans rfl, (Xd BK189.out 1).trans rfl, (Xd BK189.out 2).trans rfl, (Xd BK179.out 0).trans rfl, (Xd BK179.out 1).trans rfl, (Xd BK179.out 2).trans rfl, (Xd BK180.out 0).trans rfl, (Xd BK180.out 1).trans rfl, (Xd BK180.out 2).trans rfl, (Xd BK181.out 0).trans rfl, (Xd BK181.out 1).trans rfl⟩ (fun hHeld => ?_)
    clear hK K
    refine Xr (a' := ?_) ?_ ?_
    rotate_left
    ·show Act.put _ (some 24) _ = _
     simp only [Act.put, Xa, Xb, Xc, Xf, Xg]
     rfl
    refine one_ (i := 12) (N := some 28) #[Zt,Zt,Zt,Zt,Zt,Zt,Zt,Zt,Zt,Zt,Zt,Zt,Zt,Zf,Zf,Zf] rfl rfl (one_of HT_.out (by kernel_rfl)) (by decide) (fun K hK => ?_)
    refine goes_ Try.func15 (by kernel_rfl) rfl #[.agg #[.int .i64 a0_0, .int .i64 a0_1, .int .i64 a0_2], .agg #[.int .i64 a2_0, .int .i64 a2_1]] (by rfl) rfl rfl (by (try simp only [List.map_toArray, List.map_cons, List.map_nil]); first | done | rfl | (simp only [List.length_drop, List.length_take]; rfl)) ?_
    with_reducible refine (place_Do.calls k a0_0 a0_1 a0_2 a2_0 a2_1 t196 t197 _ A31.out).mono ?_
    rintro e w37 ⟨rfl, hb⟩
    refine ⟨_, rfl, ?_⟩
    have n0_ := Za (Xe (g := gb179) (o := .cells #[.int .i64 a0_0, .int .i64 a0_1, .int .i64 a0_2] 23 (0, 0)) (bb_6 BK179.out) hb)
    have n1_ := Za (Xe (g := gb180) (o := .cells #[.int .i64 a1_0, .int .i64 a1_1, .int .i64 a1_2] 23 (0, 0)) (bb_6 BK180.out) hb)
    have n2_ := Za (Xe (g := gb181) (o := .cells #[.int .i64 a2_0, .int .i64 a2_1] 25 (0, 0)) (bb_6 BK181.out) hb)
    have n3_ := Za (Xe (g := gb189) (o := .cells #[.int .i64 t183, .int .i64 t184, .int .i64 t185] 23 (0, 0)) (bb_6 BK189.out) hb)
    have n4_ := Za (Xe (g := gb190) (o := .cells #[.int .i64 t186, .int .i64 t187, .int .i64 t188] 23 (0, 0)) (bb_6 BK190.out) hb)
    have n5_ := Za (Xo (hb_6 HB.out) hb)
    clear BK179
    clear BK180
    clear BK181
    clear BK189
    clear BK190
    clear HB
    have BK179 := n0_
    have BK180 := n1_
    have BK181 := n2_
    have BK189 := n3_
    have BK190 := n4_
    have HB := n5_
    clear n0_ n1_ n2_ n3_ n4_ n5_
    (try clear hb)
    (try clear hb2)
    (try clear hk)
    (try clear hi)
    refine hK.out _ _ ⟨(Xd BK189.out 0).trans rfl, (Xd BK189.out 1).trans rfl, (Xd BK189.out 2).trans rfl, (Xd BK179.out 0).trans rfl, (Xd BK179.out 1).trans rfl, (Xd BK179.out 2).trans rfl, (Xd BK180.out 0).trans rfl, (Xd BK180.out 1).trans rfl, (Xd BK180.out 2).trans rfl, (Xd BK181.out 0).trans rfl, (Xd BK181.out 1).trans rfl⟩ (fun hHeld => ?_)
    clear hK K
    refine Xr (a' := ?_) ?_ ?_
    rotate_left
    ·show Act.put _ (some 28) _ = _
     simp only [Act.put, Xa, Xb, Xc, Xf, Xg]
     rfl
    refine one_ (i := 13) (N := some 29) #[Zt,Zt,Zt,Zt,Zt,Zt,Zt,Zt,Zt,Zt,Zt,Zt,Zt,Zt,Zf,Zf] rfl rfl (one_of HT_.out (by kernel_rfl)) (by decide) (fun K hK => ?_)
    refine goes_ Try.func15 (by kernel_rfl) rfl #[.agg #[.int .i64 a1_0, .int .i64 a1_1, .int .i64 a1_2], .agg #[.int .i64 t196, .int .i64 t197]] (by rfl) rfl rfl (by (try simp only [List.map_toArray, List.map_cons, List.map_nil]); first | done | rfl | (simp only [List.length_drop, List.length_take]; rfl)) ?_
    with_reducible refine (place_Do.calls k a1_0 a1_1 a1_2 t196 t197 t198 t199 _ A32.out).mono ?_
    rintro e w38 ⟨rfl, hb⟩
    refine ⟨_, rfl, ?_⟩
    have n0_ := Za (Xe (g := gb179) (o := .cells #[.int .i64 a0_0, .int .i64 a0_1, .int .i64 a0_2] 23 (0, 0)) (bb_6 BK179.out) hb)
    have n1_ := Za (Xe (g := gb180) (o := .cells #[.int .i64 a1_0, .int .i64 a1_1, .int .i64 a1_2] 23 (0, 0)) (bb_6 BK180.out) hb)
    have n2_ := Za (Xe (g := gb181) (o := .cells #[.int .i64 a2_0, .int .i64 a2_1] 25 (0, 0)) (bb_6 BK181.out) hb)
    have n3_ := Za (Xe (g := gb189) (o := .cells #[.int .i64 t183, .int .i64 t184, .int .i64 t185] 23 (0, 0)) (bb_6 BK189.out) hb)
    have n4_ := Za (Xe (g := gb190) (o := .cells #[.int .i64 t186, .int .i64 t187, .int .i64 t188] 23 (0, 0)) (bb_6 BK190.out) hb)
    have n5_ := Za (Xo (hb_6 HB.out) hb)
    clear BK179
    clear BK180
    clear BK181
    clear BK189
    clear BK190
    clear HB
    have BK179 := n0_
    have BK180 := n1_
    have BK181 := n2_
    have BK189 := n3_
    have BK190 := n4_
    have HB := n5_
    clear n0_ n1_ n2_ n3_ n4_ n5_
    (try clear hb)
    (try clear hb2)
    (try clear hk)
    (try clear hi)
    refine hK.out _ _ ⟨(Xd BK189.out 0).trans rfl, (Xd BK189.out 1).trans rfl, (Xd BK189.out 2).trans rfl, (Xd BK179.out 0).trans rfl, (Xd BK179.out 1).trans rfl, (Xd BK179.out 2).trans rfl, (Xd BK180.out 0).trans rfl, (Xd BK180.out 1).trans rfl, (Xd BK180.out 2).trans rfl, (Xd BK181.out 0).trans rfl, (Xd BK181.out 1).trans rfl⟩ (fun hHeld => ?_)
    clear hK K
    refine Xr (a' := ?_) ?_ ?_
    rotate_left
    ·show Act.put _ (some 29) _ = _
     simp only [Act.put, Xa, Xb, Xc, Xf, Xg]
     rfl
    refine Xm (i := 14) (N := some 30) (v := ?_) (a' := ?_) #[Zt,Zt,Zt,Zt,Zt,Zt,Zt,Zt,Zt,Zt,Zt,Zt,Zt,Zt,Zt,Zf] rfl rfl (Xj HT_.out (by kernel_rfl)) (fun _ _ _ h => h) (Or.inl ⟨by rfl, ?_⟩) ?_ ?_
    rotate_left
    ·intro w'
     go_simp
     with_reducible rfl
    rotate_left
    ·simp only [Act.put, Xa, Xb, Xc, Xf, Xg]
     rfl
    refine Xm (i := 15) (N := some 31) (v := ?_) (a' := ?_) #[Zt,Zt,Zt,Zt,Zt,Zt,Zt,Zt,Zt,Zt,Zt,Zt,Zt,Zt,Zt,Zt] rfl rfl (Xj HT_.out (by kernel_rfl)) (fun _ _ _ h => h) (Or.inl ⟨by rfl, ?_⟩) ?_ ?_
    rotate_left
    ·intro w'
     go_simp
     with_reducible rfl
    rotate_left
    ·simp only [Act.put, Xa, Xb, Xc, Xf, Xg]
     rfl
    refine done_ (done_of HT_.out (by kernel_rfl)) ?_
    try go_wp2
    go_meet
    case rel => exact ⟨_, ((!(t194 == t198) || (!(t195 == t199)))), (by first | rfl | (simp; done) | (simp [*]; done)), H', ⟨by first | omega | exact Nat.le_refl _⟩, ⟨by (with_reducible repeat (first | refine Xk ?_ _ | refine Xi ?_ | refine Xl ?_ _)); exact BK179.out⟩, ⟨by (with_reducible repeat (first | refine Xk ?_ _ | refine Xi ?_ | refine Xl ?_ _)); exact BK180.out⟩, ⟨by (with_reducible repeat (first | refine Xk ?_ _ | refine Xi ?_ | refine Xl ?_ _)); exact BK181.out⟩, ⟨by (with_reducible repeat (first | refine Xk ?_ _ | refine Xi ?_ | refine Xl ?_ _)); exact BK189.out⟩, ⟨by (with_reducible repeat (first | refine Xk ?_ _ | refine Xi ?_ | refine Xl ?_ _)); exact BK190.out⟩, ⟨by repeat (first | (with_reducible first | exact HB.out | apply below_alloc | apply pw_below_drewN | apply below_drew1 | refine Xp ?_ GE179.out | refine Xp ?_ GE180.out | refine Xp ?_ GE181.out | refine Xp ?_ GE189.out | refine Xp ?_ GE190.out) | exact HB.out)⟩⟩
  case rest =>
   clear HC8
   try clear c1
   try clear c2
   try clear p2
   try clear c5
   try clear c15
   try clear c26
   try clear c26b0
   obtain ⟨kq, x31_7, rfl, HA, HJ7, BK179, BK180, BK181, BK189, BK190, HB⟩ := hcut
   cases kq with
   | zero => exact absurd HA.out (by simp [gatherumlaw06_PlaceGroup.j0])
   | succ kj7 =>
    have H := HA.out
    clear HA
    simp only [gatherumlaw06_PlaceGroup.j0] at H
    by_cases c39 : x31_7 = Zt
    ·subst c39
     have H1 : (some Zf) = some r := by rw [if_pos rfl] at H; exact H
     clear H
     have H := H1
     clear H1
     obtain rfl := Option.some.inj H
     go_wp2
     go_ret
     exact ⟨by first | rfl | (simp [errW_none, errW_some] <;> rfl) | (simp [*, errW_none, errW_some] <;> rfl), by repeat (first | (with_reducible first | exact HB.out | apply below_alloc | apply pw_below_drewN | apply below_drew1 | refine Xp ?_ GE179.out | refine Xp ?_ GE180.out | refine Xp ?_ GE181.out | refine Xp ?_ GE189.out | refine Xp ?_ GE190.out) | exact HB.out)⟩
    ·replace c39 := Bool.eq_false_iff.mpr c39
     subst c39
     have H1 : ((place_Do.f kj7 a0_0 a0_1 a0_2 a2_0 a2_1).bind fun bt200 => ((place_Do.f kj7 t186 t187 t188 bt200.1 bt200.2).bind fun bt202 => (if (bt202.1 == a2_0 && (bt202.2 == a2_1)) = Zt then ((place_Then.f kj7 a0_0 a0_1 a0_2 t186 t187 t188).bind fun bt204 => (if (bt204.1 == 0 && (bt204.2.1 == 0 && (bt204.2.2 == 0))) = Zt then ((place_Then.f kj7 t186 t187 t188 a0_0 a0_1 a0_2).bind fun bt207 => (if (bt207.1 == 0 && (bt207.2.1 == 0 && (bt207.2.2 == 0))) = Zt then (if t186 ≥ 0 then (some (decide (t186 ≤ 7))) else (some Zf)) else (some Zf))) else (some Zf))) else (some Zf)))) = some r := by rw [if_neg (show ¬ (Zf = Zt) by decide)] at H; exact H
     clear H
     have H := H1
     clear H1
     replace H := Option.bind_eq_some_iff.mp H
     obtain ⟨⟨t200, t201⟩, A400, H⟩ := H
     replace H : ((place_Do.f kj7 t186 t187 t188 t200 t201).bind fun bt202 => (if (bt202.1 == a2_0 && (bt202.2 == a2_1)) = Zt then ((place_Then.f kj7 a0_0 a0_1 a0_2 t186 t187 t188).bind fun bt204 => (if (bt204.1 == 0 && (bt204.2.1 == 0 && (bt204.2.2 == 0))) = Zt then ((place_Then.f kj7 t186 t187 t188 a0_0 a0_1 a0_2).bind fun bt207 => (if (bt207.1 == 0 && (bt207.2.1 == 0 && (bt207.2.2 == 0))) = Zt then (if t186 ≥ 0 then (some (decide (t186 ≤ 7))) else (some Zf)) else (some Zf))) else (some Zf))) else (some Zf))) = some r := H
     have A40 := Za A400
     clear A400
     replace H := Option.bind_eq_some_iff.mp H
     obtain ⟨⟨t202, t203⟩, A410, H⟩ := H
     replace H : (if (t202 == a2_0 && (t203 == a2_1)) = Zt then ((place_Then.f kj7 a0_0 a0_1 a0_2 t186 t187 t188).bind fun bt204 => (if (bt204.1 == 0 && (bt204.2.1 == 0 && (bt204.2.2 == 0))) = Zt then ((place_Then.f kj7 t186 t187 t188 a0_0 a0_1 a0_2).bind fun bt207 => (if (bt207.1 == 0 && (bt207.2.1 == 0 && (bt207.2.2 == 0))) = Zt then (if t186 ≥ 0 then (some (decide (t186 ≤ 7))) else (some Zf)) else (some Zf))) else (some Zf))) else (some Zf)) = some r := H
     have A41 := Za A410
     clear A410
     by_cases c42 : (t202 == a2_0 && (t203 == a2_1)) = Zt
     ·rw [if_pos c42] at H
      have c42b0 : (t202 == a2_0 && (t203 == a2_1)) = Zt := c42
      (try (have c42b1 : decide (t202 = a2_0 && (t203 == a2_1)) = Zt := by simpa using c42))
      (try (have c42b2 : (t202 == a2_0 && (t203 == a2_1)) = Zt := by simpa using c42))
      clear c42
      replace H := Option.bind_eq_some_iff.mp H
      obtain ⟨⟨t204, t205, t206⟩, A430, H⟩ := H
      replace H : (if (t204 == 0 && (t205 == 0 && (t206 == 0))) = Zt then ((place_Then.f kj7 t186 t187 t188 a0_0 a0_1 a0_2).bind fun bt207 => (if (bt207.1 == 0 && (bt207.2.1 == 0 && (bt207.2.2 == 0))) = Zt then (if t186 ≥ 0 then (some (decide (t186 ≤ 7))) else (some Zf)) else (some Zf))) else (some Zf)) = some r := H
      have A43 := Za A430
      clear A430
      by_cases c44 : (t204 == 0 && (t205 == 0 && (t206 == 0))) = Zt
      ·rw [if_pos c44] at H
       have c44b0 : (t204 == 0 && (t205 == 0 && (t206 == 0))) = Zt := c44
       (try (have c44b1 : decide (t204 = 0 && (t205 == 0 && (t206 == 0))) = Zt := by simpa using c44))
       (try (have c44b2 : (t204 == 0 && (t205 == 0 && (t206 == 0))) = Zt := by simpa using c44))
       clear c44
       replace H := Option.bind_eq_some_iff.mp H
       obtain ⟨⟨t207, t208, t209⟩, A450, H⟩ := H
       replace H : (if (t207 == 0 && (t208 == 0 && (t209 == 0))) = Zt then (if t186 ≥ 0 then (some (decide (t186 ≤ 7))) else (some Zf)) else (some Zf)) = some r := H
       have A45 := Za A450
       clear A450
       by_cases c46 : (t207 == 0 && (t208 == 0 && (t209 == 0))) = Zt
       ·rw [if_pos c46] at H
        have c46b0 : (t207 == 0 && (t208 == 0 && (t209 == 0))) = Zt := c46
        (try (have c46b1 : decide (t207 = 0 && (t208 == 0 && (t209 == 0))) = Zt := by simpa using c46))
        (try (have c46b2 : (t207 == 0 && (t208 == 0 && (t209 == 0))) = Zt := by simpa using c46))
        clear c46
        by_cases c47 : t186 ≥ 0
        ·rw [if_pos c47] at H
         have c47b0 : decide (0 ≤ t186) = Zt := decide_eq_true c47
         clear c47
         obtain rfl := Option.some.inj H
         try go_wp2
         have n0_ := Za (Xi BK179.out)
         have n1_ := Za (Xi BK180.out)
         have n2_ := Za (Xi BK181.out)
         have n3_ := Za (Xi BK189.out)
         have n4_ := Za (Xi BK190.out)
         have n5_ := Za (below_drew1 HB.out)
         clear BK179
         clear BK180
         clear BK181
         clear BK189
         clear BK190
         clear HB
         have BK179 := n0_
         have BK180 := n1_
         have BK181 := n2_
         have BK189 := n3_
         have BK190 := n4_
         have HB := n5_
         clear n0_ n1_ n2_ n3_ n4_ n5_
         refine start_ (n := 32) (S := fun w' => w'.cell? ⟨gb190, 0, none⟩ = some (.int .i64 t186) ∧ w'.cell? ⟨gb190, 1, none⟩ = some (.int .i64 t187) ∧ w'.cell? ⟨gb190, 2, none⟩ = some (.int .i64 t188) ∧ w'.cell? ⟨gb179, 0, none⟩ = some (.int .i64 a0_0) ∧ w'.cell? ⟨gb179, 1, none⟩ = some (.int .i64 a0_1) ∧ w'.cell? ⟨gb179, 2, none⟩ = some (.int .i64 a0_2) ∧ w'.cell? ⟨gb181, 0, none⟩ = some (.int .i64 a2_0) ∧ w'.cell? ⟨gb181, 1, none⟩ = some (.int .i64 a2_1)) (ds := []) #[Zf,Zf,Zf,Zf,Zf,Zf,Zf,Zf,Zf,Zf,Zf,Zf,Zf,Zf,Zf,Zf,Zf,Zf,Zf,Zf,Zf,Zf,Zf,Zf,Zf,Zf,Zf,Zf,Zf,Zf,Zf,Zf] (by kernel_rfl) rfl rfl ⟨(Xd BK190.out 0).trans rfl, (Xd BK190.out 1).trans rfl, (Xd BK190.out 2).trans rfl, (Xd BK179.out 0).trans rfl, (Xd BK179.out 1).trans rfl, (Xd BK179.out 2).trans rfl, (Xd BK181.out 0).trans rfl, (Xd BK181.out 1).trans rfl⟩ (fun hHeld => ?_); refine with_tabW gatherumlaw06_PlaceGroup.tab6 gatherumlaw06_PlaceGroup.bits6 (fun HT_ HW_ => ?_)
         generalize wc.drew = w48 at BK179 BK180 BK181 BK189 BK190 HB hHeld ⊢
         refine take_ (i := 0) (N := some 32) (v := ?_) (a' := ?_) #[Zt,Zf,Zf,Zf,Zf,Zf,Zf,Zf,Zf,Zf,Zf,Zf,Zf,Zf,Zf,Zf,Zf,Zf,Zf,Zf,Zf,Zf,Zf,Zf,Zf,Zf,Zf,Zf,Zf,Zf,Zf,Zf] rfl rfl (Xq HT_.out HW_.out (by kernel_rfl)) (fun _ _ _ h => h) (Or.inl ⟨by rfl, ?_⟩) hHeld ?_ ?_
         rotate_left
         ·rintro w' ⟨s0, s1, s2, s3, s4, s5, s6, s7⟩
          go_simp
          with_reducible rfl
         rotate_left
         ·simp only [Act.put, Xa, Xb, Xc, Xf, Xg]
          rfl
         refine take_ (i := 1) (N := some 33) (v := ?_) (a' := ?_) #[Zt,Zt,Zf,Zf,Zf,Zf,Zf,Zf,Zf,Zf,Zf,Zf,Zf,Zf,Zf,Zf,Zf,Zf,Zf,Zf,Zf,Zf,Zf,Zf,Zf,Zf,Zf,Zf,Zf,Zf,Zf,Zf] rfl rfl (Xq HT_.out HW_.out (by kernel_rfl)) (fun _ _ _ h => h) (Or.inl ⟨by rfl, ?_⟩) hHeld ?_ ?_
         rotate_left
         ·rintro w' ⟨s0, s1, s2, s3, s4, s5, s6, s7⟩
          go_simp
          with_reducible rfl
         rotate_left
         ·simp only [Act.put, Xa, Xb, Xc, Xf, Xg]
          rfl
         refine take_ (i := 2) (N := some 34) (v := ?_) (a' := ?_) #[Zt,Zt,Zt,Zf,Zf,Zf,Zf,Zf,Zf,Zf,Zf,Zf,Zf,Zf,Zf,Zf,Zf,Zf,Zf,Zf,Zf,Zf,Zf,Zf,Zf,Zf,Zf,Zf,Zf,Zf,Zf,Zf] rfl rfl (Xq HT_.out HW_.out (by kernel_rfl)) (fun _ _ _ h => h) (Or.inl ⟨by rfl, ?_⟩) hHeld ?_ ?_
         rotate_left
         ·rintro w' ⟨s0, s1, s2, s3, s4, s5, s6, s7⟩
          go_simp
          with_reducible rfl
         rotate_left
         ·simp only [Act.put, Xa, Xb, Xc, Xf, Xg]
          rfl
         refine take_ (i := 5) (N := some 37) (v := ?_) (a' := ?_) #[Zt,Zt,Zt,Zf,Zf,Zt,Zf,Zf,Zf,Zf,Zf,Zf,Zf,Zf,Zf,Zf,Zf,Zf,Zf,Zf,Zf,Zf,Zf,Zf,Zf,Zf,Zf,Zf,Zf,Zf,Zf,Zf] rfl rfl (Xq HT_.out HW_.out (by kernel_rfl)) (fun _ _ _ h => h) (Or.inl ⟨by rfl, ?_⟩) hHeld ?_ ?_
         rotate_left
         ·rintro w' ⟨s0, s1, s2, s3, s4, s5, s6, s7⟩
          go_simp
          with_reducible rfl
         rotate_left
         ·simp only [Act.put, Xa, Xb, Xc, Xf, Xg]
          rfl
         refine one_ (i := 3) (N := some 35) #[Zt,Zt,Zt,Zt,Zf,Zt,Zf,Zf,Zf,Zf,Zf,Zf,Zf,Zf,Zf,Zf,Zf,Zf,Zf,Zf,Zf,Zf,Zf,Zf,Zf,Zf,Zf,Zf,Zf,Zf,Zf,Zf] rfl rfl (one_of HT_.out (by kernel_rfl)) (by decide) (fun K hK => ?_)
         refine goes_ Try.func15 (by kernel_rfl) rfl #[.agg #[.int .i64 a0_0, .int .i64 a0_1, .int .i64 a0_2], .agg #[.int .i64 a2_0, .int .i64 a2_1]] (by rfl) rfl rfl (by (try simp only [List.map_toArray, List.map_cons, List.map_nil]); first | done | rfl | (simp only [List.length_drop, List.length_take]; rfl)) ?_
         with_reducible refine (place_Do.calls kj7 a0_0 a0_1 a0_2 a2_0 a2_1 t200 t201 _ A40.out).mono ?_
         rintro e w49 ⟨rfl, hb⟩
         refine ⟨_, rfl, ?_⟩
         have n0_ := Za (Xe (g := gb179) (o := .cells #[.int .i64 a0_0, .int .i64 a0_1, .int .i64 a0_2] 23 (0, 0)) (bb_6 BK179.out) hb)
         have n1_ := Za (Xe (g := gb180) (o := .cells #[.int .i64 a1_0, .int .i64 a1_1, .int .i64 a1_2] 23 (0, 0)) (bb_6 BK180.out) hb)
         have n2_ := Za (Xe (g := gb181) (o := .cells #[.int .i64 a2_0, .int .i64 a2_1] 25 (0, 0)) (bb_6 BK181.out) hb)
         have n3_ := Za (Xe (g := gb189) (o := .cells #[.int .i64 t183, .int .i64 t184, .int .i64 t185] 23 (0, 0)) (bb_6 BK189.out) hb)
         have n4_ := Za (Xe (g := gb190) (o := .cells #[.int .i64 t186, .int .i64 t187, .int .i64 t188] 23 (0, 0)) (bb_6 BK190.out) hb)
         have n5_ := Za (Xo (hb_6 HB.out) hb)
         clear BK179
         clear BK180
         clear BK181
         clear BK189
         clear BK190
         clear HB
         have BK179 := n0_
         have BK180 := n1_
         have BK181 := n2_
         have BK189 := n3_
         have BK190 := n4_
         have HB := n5_
         clear n0_ n1_ n2_ n3_ n4_ n5_
         (try clear hb)
         (try clear hb2)
         (try clear hk)
         (try clear hi)
         refine hK.out _ _ ⟨(Xd BK190.out 0).trans rfl, (Xd BK190.out 1).trans rfl, (Xd BK190.out 2).trans rfl, (Xd BK179.out 0).trans rfl, (Xd BK179.out 1).trans rfl, (Xd BK179.out 2).trans rfl, (Xd BK181.out 0).trans rfl, (Xd BK181.out 1).trans rfl⟩ (fun hHeld => ?_)
         clear hK K
         refine Xr (a' := ?_) ?_ ?_
         rotate_left
         ·show Act.put _ (some 35) _ = _
          simp only [Act.put, Xa, Xb, Xc, Xf, Xg]
          rfl
         refine one_ (i := 4) (N := some 36) #[Zt,Zt,Zt,Zt,Zt,Zt,Zf,Zf,Zf,Zf,Zf,Zf,Zf,Zf,Zf,Zf,Zf,Zf,Zf,Zf,Zf,Zf,Zf,Zf,Zf,Zf,Zf,Zf,Zf,Zf,Zf,Zf] rfl rfl (one_of HT_.out (by kernel_rfl)) (by decide) (fun K hK => ?_)
         refine goes_ Try.func15 (by kernel_rfl) rfl #[.agg #[.int .i64 t186, .int .i64 t187, .int .i64 t188], .agg #[.int .i64 t200, .int .i64 t201]] (by rfl) rfl rfl (by (try simp only [List.map_toArray, List.map_cons, List.map_nil]); first | done | rfl | (simp only [List.length_drop, List.length_take]; rfl)) ?_
         with_reducible refine (place_Do.calls kj7 t186 t187 t188 t200 t201 t202 t203 _ A41.out).mono ?_
         rintro e w50 ⟨rfl, hb⟩
         refine ⟨_, rfl, ?_⟩
         have n0_ := Za (Xe (g := gb179) (o := .cells #[.int .i64 a0_0, .int .i64 a0_1, .int .i64 a0_2] 23 (0, 0)) (bb_6 BK179.out) hb)
         have n1_ := Za (Xe (g := gb180) (o := .cells #[.int .i64 a1_0, .int .i64 a1_1, .int .i64 a1_2] 23 (0, 0)) (bb_6 BK180.out) hb)
         have n2_ := Za (Xe (g := gb181) (o := .cells #[.int .i64 a2_0, .int .i64 a2_1] 25 (0, 0)) (bb_6 BK181.out) hb)
         have n3_ := Za (Xe (g := gb189) (o := .cells #[.int .i64 t183, .int .i64 t184, .int .i64 t185] 23 (0, 0)) (bb_6 BK189.out) hb)
         have n4_ := Za (Xe (g := gb190) (o := .cells #[.int .i64 t186, .int .i64 t187, .int .i64 t188] 23 (0, 0)) (bb_6 BK190.out) hb)
         have n5_ := Za (Xo (hb_6 HB.out) hb)
         clear BK179
         clear BK180
         clear BK181
         clear BK189
         clear BK190
         clear HB
         have BK179 := n0_
         have BK180 := n1_
         have BK181 := n2_
         have BK189 := n3_
         have BK190 := n4_
         have HB := n5_
         clear n0_ n1_ n2_ n3_ n4_ n5_
         (try clear hb)
         (try clear hb2)
         (try clear hk)
         (try clear hi)
         refine hK.out _ _ ⟨(Xd BK190.out 0).trans rfl, (Xd BK190.out 1).trans rfl, (Xd BK190.out 2).trans rfl, (Xd BK179.out 0).trans rfl, (Xd BK179.out 1).trans rfl, (Xd BK179.out 2).trans rfl, (Xd BK181.out 0).trans rfl, (Xd BK181.out 1).trans rfl⟩ (fun hHeld => ?_)
         clear hK K
         refine Xr (a' := ?_) ?_ ?_
         rotate_left
         ·show Act.put _ (some 36) _ = _
          simp only [Act.put, Xa, Xb, Xc, Xf, Xg]
          rfl
         refine Xm (i := 6) (N := some 38) (v := ?_) (a' := ?_) #[Zt,Zt,Zt,Zt,Zt,Zt,Zt,Zf,Zf,Zf,Zf,Zf,Zf,Zf,Zf,Zf,Zf,Zf,Zf,Zf,Zf,Zf,Zf,Zf,Zf,Zf,Zf,Zf,Zf,Zf,Zf,Zf] rfl rfl (Xj HT_.out (by kernel_rfl)) (fun _ _ _ h => h) (Or.inl ⟨by rfl, ?_⟩) ?_ ?_
         rotate_left
         ·intro w'
          go_simp
          with_reducible rfl
         rotate_left
         ·simp only [Act.put, Xa, Xb, Xc, Xf, Xg]
          rfl
         refine Xm (i := 7) (N := some 39) (v := ?_) (a' := ?_) #[Zt,Zt,Zt,Zt,Zt,Zt,Zt,Zt,Zf,Zf,Zf,Zf,Zf,Zf,Zf,Zf,Zf,Zf,Zf,Zf,Zf,Zf,Zf,Zf,Zf,Zf,Zf,Zf,Zf,Zf,Zf,Zf] rfl rfl (Xj HT_.out (by kernel_rfl)) (fun _ _ _ h => h) (Or.inl ⟨by rfl, ?_⟩) ?_ ?_
         rotate_left
         ·intro w'
          go_simp
          with_reducible rfl
         rotate_left
         ·simp only [Act.put, Xa, Xb, Xc, Xf, Xg]
          rfl
         refine Xm (i := 11) (N := some 43) (v := ?_) (a' := ?_) #[Zt,Zt,Zt,Zt,Zt,Zt,Zt,Zt,Zf,Zf,Zf,Zt,Zf,Zf,Zf,Zf,Zf,Zf,Zf,Zf,Zf,Zf,Zf,Zf,Zf,Zf,Zf,Zf,Zf,Zf,Zf,Zf] rfl rfl (Xj HT_.out (by kernel_rfl)) (fun _ _ _ h => h) (Or.inl ⟨by rfl, ?_⟩) ?_ ?_
         rotate_left
         ·intro w'
          go_simp
          with_reducible rfl
         rotate_left
         ·simp only [Act.put, Xa, Xb, Xc, Xf, Xg]
          rfl
         refine take_ (i := 8) (N := some 40) (v := ?_) (a' := ?_) #[Zt,Zt,Zt,Zt,Zt,Zt,Zt,Zt,Zt,Zf,Zf,Zt,Zf,Zf,Zf,Zf,Zf,Zf,Zf,Zf,Zf,Zf,Zf,Zf,Zf,Zf,Zf,Zf,Zf,Zf,Zf,Zf] rfl rfl (Xq HT_.out HW_.out (by kernel_rfl)) (fun _ _ _ h => h) (Or.inl ⟨by rfl, ?_⟩) hHeld ?_ ?_
         rotate_left
         ·rintro w' ⟨s0, s1, s2, s3, s4, s5, s6, s7⟩
          go_simp
          with_reducible rfl
         rotate_left
         ·simp only [Act.put, Xa, Xb, Xc, Xf, Xg]
          rfl
         refine take_ (i := 9) (N := some 41) (v := ?_) (a' := ?_) #[Zt,Zt,Zt,Zt,Zt,Zt,Zt,Zt,Zt,Zt,Zf,Zt,Zf,Zf,Zf,Zf,Zf,Zf,Zf,Zf,Zf,Zf,Zf,Zf,Zf,Zf,Zf,Zf,Zf,Zf,Zf,Zf] rfl rfl (Xq HT_.out HW_.out (by kernel_rfl)) (fun _ _ _ h => h) (Or.inl ⟨by rfl, ?_⟩) hHeld ?_ ?_
         rotate_left
         ·rintro w' ⟨s0, s1, s2, s3, s4, s5, s6, s7⟩
          go_simp
          with_reducible rfl
         rotate_left
         ·simp only [Act.put, Xa, Xb, Xc, Xf, Xg]
          rfl
         refine one_ (i := 10) (N := some 42) #[Zt,Zt,Zt,Zt,Zt,Zt,Zt,Zt,Zt,Zt,Zt,Zt,Zf,Zf,Zf,Zf,Zf,Zf,Zf,Zf,Zf,Zf,Zf,Zf,Zf,Zf,Zf,Zf,Zf,Zf,Zf,Zf] rfl rfl (one_of HT_.out (by kernel_rfl)) (by decide) (fun K hK => ?_)
         refine goes_ Try.func53 (by kernel_rfl) rfl #[.agg #[.int .i64 a0_0, .int .i64 a0_1, .int .i64 a0_2], .agg #[.int .i64 t186, .int .i64 t187, .int .i64 t188]] (by rfl) rfl rfl (by (try simp only [List.map_toArray, List.map_cons, List.map_nil]); first | done | rfl | (simp only [List.length_drop, List.length_take]; rfl)) ?_
         with_reducible refine (place_Then.calls kj7 a0_0 a0_1 a0_2 t186 t187 t188 t204 t205 t206 _ A43.out).mono ?_
         rintro e w51 ⟨rfl, hb⟩
         refine ⟨_, rfl, ?_⟩
         have n0_ := Za (Xe (g := gb179) (o := .cells #[.int .i64 a0_0, .int .i64 a0_1, .int .i64 a0_2] 23 (0, 0)) (bb_6 BK179.out) hb)
         have n1_ := Za (Xe (g := gb180) (o := .cells #[.int .i64 a1_0, .int .i64 a1_1, .int .i64 a1_2] 23 (0, 0)) (bb_6 BK180.out) hb)
         have n2_ := Za (Xe (g := gb181) (o := .cells #[.int .i64 a2_0, .int .i64 a2_1] 25 (0, 0)) (bb_6 BK181.out) hb)
         have n3_ := Za (Xe (g := gb189) (o := .cells #[.int .i64 t183, .int .i64 t184, .int .i64 t185] 23 (0, 0)) (bb_6 BK189.out) hb)
         have n4_ := Za (Xe (g := gb190) (o := .cells #[.int .i64 t186, .int .i64 t187, .int .i64 t188] 23 (0, 0)) (bb_6 BK190.out) hb)
         have n5_ := Za (Xo (hb_6 HB.out) hb)
         clear BK179
         clear BK180
         clear BK181
         clear BK189
         clear BK190
         clear HB
         have BK179 := n0_
         have BK180 := n1_
         have BK181 := n2_
         have BK189 := n3_
         have BK190 := n4_
         have HB := n5_
         clear n0_ n1_ n2_ n3_ n4_ n5_
         (try clear hb)
         (try clear hb2)
         (try clear hk)
         (try clear hi)
         refine hK.out _ _ ⟨(Xd BK190.out 0).trans rfl, (Xd BK190.out 1).trans rfl, (Xd BK190.out 2).trans rfl, (Xd BK179.out 0).trans rfl, (Xd BK179.out 1).trans rfl, (Xd BK179.out 2).trans rfl, (Xd BK181.out 0).trans rfl, (Xd BK181.out 1).trans rfl⟩ (fun hHeld => ?_)
         clear hK K
         refine Xr (a' := ?_) ?_ ?_
         rotate_left
         ·show Act.put _ (some 42) _ = _
          simp only [Act.put, Xa, Xb, Xc, Xf, Xg]
          rfl
         refine Xm (i := 12) (N := some 44) (v := ?_) (a' := ?_) #[Zt,Zt,Zt,Zt,Zt,Zt,Zt,Zt,Zt,Zt,Zt,Zt,Zt,Zf,Zf,Zf,Zf,Zf,Zf,Zf,Zf,Zf,Zf,Zf,Zf,Zf,Zf,Zf,Zf,Zf,Zf,Zf] rfl rfl (Xj HT_.out (by kernel_rfl)) (fun _ _ _ h => h) (Or.inl ⟨by rfl, ?_⟩) ?_ ?_
         rotate_left
         ·intro w'
          go_simp
          with_reducible rfl
         rotate_left
         ·simp only [Act.put, Xa, Xb, Xc, Xf, Xg]
          rfl
         refine Xm (i := 13) (N := some 45) (v := ?_) (a' := ?_) #[Zt,Zt,Zt,Zt,Zt,Zt,Zt,Zt,Zt,Zt,Zt,Zt,Zt,Zt,Zf,Zf,Zf,Zf,Zf,Zf,Zf,Zf,Zf,Zf,Zf,Zf,Zf,Zf,Zf,Zf,Zf,Zf] rfl rfl (Xj HT_.out (by kernel_rfl)) (fun _ _ _ h => h) (Or.inl ⟨by rfl, ?_⟩) ?_ ?_
         rotate_left
         ·intro w'
          go_simp
          with_reducible rfl
         rotate_left
         ·simp only [Act.put, Xa, Xb, Xc, Xf, Xg]
          rfl
         refine Xm (i := 14) (N := some 46) (v := ?_) (a' := ?_) #[Zt,Zt,Zt,Zt,Zt,Zt,Zt,Zt,Zt,Zt,Zt,Zt,Zt,Zt,Zt,Zf,Zf,Zf,Zf,Zf,Zf,Zf,Zf,Zf,Zf,Zf,Zf,Zf,Zf,Zf,Zf,Zf] rfl rfl (Xj HT_.out (by kernel_rfl)) (fun _ _ _ h => h) (Or.inl ⟨by rfl, ?_⟩) ?_ ?_
         rotate_left
         ·intro w'
          go_simp
          with_reducible rfl
         rotate_left
         ·simp only [Act.put, Xa, Xb, Xc, Xf, Xg]
          rfl
         refine Xm (i := 18) (N := some 50) (v := ?_) (a' := ?_) #[Zt,Zt,Zt,Zt,Zt,Zt,Zt,Zt,Zt,Zt,Zt,Zt,Zt,Zt,Zt,Zf,Zf,Zf,Zt,Zf,Zf,Zf,Zf,Zf,Zf,Zf,Zf,Zf,Zf,Zf,Zf,Zf] rfl rfl (Xj HT_.out (by kernel_rfl)) (fun _ _ _ h => h) (Or.inl ⟨by rfl, ?_⟩) ?_ ?_
         rotate_left
         ·intro w'
          go_simp
          with_reducible rfl
         rotate_left
         ·simp only [Act.put, Xa, Xb, Xc, Xf, Xg]
          rfl
         refine take_ (i := 15) (N := some 47) (v := ?_) (a' := ?_) #[Zt,Zt,Zt,Zt,Zt,Zt,Zt,Zt,Zt,Zt,Zt,Zt,Zt,Zt,Zt,Zt,Zf,Zf,Zt,Zf,Zf,Zf,Zf,Zf,Zf,Zf,Zf,Zf,Zf,Zf,Zf,Zf] rfl rfl (Xq HT_.out HW_.out (by kernel_rfl)) (fun _ _ _ h => h) (Or.inl ⟨by rfl, ?_⟩) hHeld ?_ ?_
         rotate_left
         ·rintro w' ⟨s0, s1, s2, s3, s4, s5, s6, s7⟩
          go_simp
          with_reducible rfl
         rotate_left
         ·simp only [Act.put, Xa, Xb, Xc, Xf, Xg]
          rfl
         refine take_ (i := 16) (N := some 48) (v := ?_) (a' := ?_) #[Zt,Zt,Zt,Zt,Zt,Zt,Zt,Zt,Zt,Zt,Zt,Zt,Zt,Zt,Zt,Zt,Zt,Zf,Zt,Zf,Zf,Zf,Zf,Zf,Zf,Zf,Zf,Zf,Zf,Zf,Zf,Zf] rfl rfl (Xq HT_.out HW_.out (by kernel_rfl)) (fun _ _ _ h => h) (Or.inl ⟨by rfl, ?_⟩) hHeld ?_ ?_
         rotate_left
         ·rintro w' ⟨s0, s1, s2, s3, s4, s5, s6, s7⟩
          go_simp
          with_reducible rfl
         rotate_left
         ·simp only [Act.put, Xa, Xb, Xc, Xf, Xg]
          rfl
         refine one_ (i := 17) (N := some 49) #[Zt,Zt,Zt,Zt,Zt,Zt,Zt,Zt,Zt,Zt,Zt,Zt,Zt,Zt,Zt,Zt,Zt,Zt,Zt,Zf,Zf,Zf,Zf,Zf,Zf,Zf,Zf,Zf,Zf,Zf,Zf,Zf] rfl rfl (one_of HT_.out (by kernel_rfl)) (by decide) (fun K hK => ?_)
         refine goes_ Try.func53 (by kernel_rfl) rfl #[.agg #[.int .i64 t186, .int .i64 t187, .int .i64 t188], .agg #[.int .i64 a0_0, .int .i64 a0_1, .int .i64 a0_2]] (by rfl) rfl rfl (by (try simp only [List.map_toArray, List.map_cons, List.map_nil]); first | done | rfl | (simp only [List.length_drop, List.length_take]; rfl)) ?_
         with_reducible refine (place_Then.calls kj7 t186 t187 t188 a0_0 a0_1 a0_2 t207 t208 t209 _ A45.out).mono ?_
         rintro e w52 ⟨rfl, hb⟩
         refine ⟨_, rfl, ?_⟩
         have n0_ := Za (Xe (g := gb179) (o := .cells #[.int .i64 a0_0, .int .i64 a0_1, .int .i64 a0_2] 23 (0, 0)) (bb_6 BK179.out) hb)
         have n1_ := Za (Xe (g := gb180) (o := .cells #[.int .i64 a1_0, .int .i64 a1_1, .int .i64 a1_2] 23 (0, 0)) (bb_6 BK180.out) hb)
         have n2_ := Za (Xe (g := gb181) (o := .cells #[.int .i64 a2_0, .int .i64 a2_1] 25 (0, 0)) (bb_6 BK181.out) hb)
         have n3_ := Za (Xe (g := gb189) (o := .cells #[.int .i64 t183, .int .i64 t184, .int .i64 t185] 23 (0, 0)) (bb_6 BK189.out) hb)
         have n4_ := Za (Xe (g := gb190) (o := .cells #[.int .i64 t186, .int .i64 t187, .int .i64 t188] 23 (0, 0)) (bb_6 BK190.out) hb)
         have n5_ := Za (Xo (hb_6 HB.out) hb)
         clear BK179
         clear BK180
         clear BK181
         clear BK189
         clear BK190
         clear HB
         have BK179 := n0_
         have BK180 := n1_
         have BK181 := n2_
         have BK189 := n3_
         have BK190 := n4_
         have HB := n5_
         clear n0_ n1_ n2_ n3_ n4_ n5_
         (try clear hb)
         (try clear hb2)
         (try clear hk)
         (try clear hi)
         refine hK.out _ _ ⟨(Xd BK190.out 0).trans rfl, (Xd BK190.out 1).trans rfl, (Xd BK190.out 2).trans rfl, (Xd BK179.out 0).trans rfl, (Xd BK179.out 1).trans rfl, (Xd BK179.out 2).trans rfl, (Xd BK181.out 0).trans rfl, (Xd BK181.out 1).trans rfl⟩ (fun hHeld => ?_)
         clear hK K
         refine Xr (a' := ?_) ?_ ?_
         rotate_left
         ·show Act.put _ (some 49) _ = _
          simp only [Act.put, Xa, Xb, Xc, Xf, Xg]
          rfl
         refine Xm (i := 19) (N := some 51) (v := ?_) (a' := ?_) #[Zt,Zt,Zt,Zt,Zt,Zt,Zt,Zt,Zt,Zt,Zt,Zt,Zt,Zt,Zt,Zt,Zt,Zt,Zt,Zt,Zf,Zf,Zf,Zf,Zf,Zf,Zf,Zf,Zf,Zf,Zf,Zf] rfl rfl (Xj HT_.out (by kernel_rfl)) (fun _ _ _ h => h) (Or.inl ⟨by rfl, ?_⟩) ?_ ?_
         rotate_left
         ·intro w'
          go_simp
          with_reducible rfl
         rotate_left
         ·simp only [Act.put, Xa, Xb, Xc, Xf, Xg]
          rfl
         refine Xm (i := 20) (N := some 52) (v := ?_) (a' := ?_) #[Zt,Zt,Zt,Zt,Zt,Zt,Zt,Zt,Zt,Zt,Zt,Zt,Zt,Zt,Zt,Zt,Zt,Zt,Zt,Zt,Zt,Zf,Zf,Zf,Zf,Zf,Zf,Zf,Zf,Zf,Zf,Zf] rfl rfl (Xj HT_.out (by kernel_rfl)) (fun _ _ _ h => h) (Or.inl ⟨by rfl, ?_⟩) ?_ ?_
         rotate_left
         ·intro w'
          go_simp
          with_reducible rfl
         rotate_left
         ·simp only [Act.put, Xa, Xb, Xc, Xf, Xg]
          rfl
         refine Xm (i := 21) (N := some 53) (v := ?_) (a' := ?_) #[Zt,Zt,Zt,Zt,Zt,Zt,Zt,Zt,Zt,Zt,Zt,Zt,Zt,Zt,Zt,Zt,Zt,Zt,Zt,Zt,Zt,Zt,Zf,Zf,Zf,Zf,Zf,Zf,Zf,Zf,Zf,Zf] rfl rfl (Xj HT_.out (by kernel_rfl)) (fun _ _ _ h => h) (Or.inl ⟨by rfl, ?_⟩) ?_ ?_
         rotate_left
         ·intro w'
          go_simp
          with_reducible rfl
         rotate_left
         ·simp only [Act.put, Xa, Xb, Xc, Xf, Xg]
          rfl
         refine Xm (i := 22) (N := some 54) (v := ?_) (a' := ?_) #[Zt,Zt,Zt,Zt,Zt,Zt,Zt,Zt,Zt,Zt,Zt,Zt,Zt,Zt,Zt,Zt,Zt,Zt,Zt,Zt,Zt,Zt,Zt,Zf,Zf,Zf,Zf,Zf,Zf,Zf,Zf,Zf] rfl rfl (Xj HT_.out (by kernel_rfl)) (fun _ _ _ h => h) (Or.inl ⟨by rfl, ?_⟩) ?_ ?_
         rotate_left
         ·intro w'
          go_simp
          with_reducible rfl
         rotate_left
         ·simp only [Act.put, Xa, Xb, Xc, Xf, Xg]
          rfl
         refine take_ (i := 23) (N := some 55) (v := ?_) (a' := ?_) #[Zt,Zt,Zt,Zt,Zt,Zt,Zt,Zt,Zt,Zt,Zt,Zt,Zt,Zt,Zt,Zt,Zt,Zt,Zt,Zt,Zt,Zt,Zt,Zt,Zf,Zf,Zf,Zf,Zf,Zf,Zf,Zf] rfl rfl (Xq HT_.out HW_.out (by kernel_rfl)) (fun _ _ _ h => h) (Or.inl ⟨by rfl, ?_⟩) hHeld ?_ ?_
         rotate_left
         ·rintro w' ⟨s0, s1, s2, s3, s4, s5, s6, s7⟩
          go_simp
          with_reducible rfl
         rotate_left
         ·simp only [Act.put, Xa, Xb, Xc, Xf, Xg]
          rfl
         refine Xm (i := 24) (N := some 56) (v := ?_) (a' := ?_) #[Zt,Zt,Zt,Zt,Zt,Zt,Zt,Zt,Zt,Zt,Zt,Zt,Zt,Zt,Zt,Zt,Zt,Zt,Zt,Zt,Zt,Zt,Zt,Zt,Zt,Zf,Zf,Zf,Zf,Zf,Zf,Zf] rfl rfl (Xj HT_.out (by kernel_rfl)) (fun _ _ _ h => h) (Or.inl ⟨by rfl, ?_⟩) ?_ ?_
         rotate_left
         ·intro w'
          go_simp
          with_reducible rfl
         rotate_left
         ·simp only [Act.put, Xa, Xb, Xc, Xf, Xg]
          rfl
         refine Xm (i := 25) (N := some 57) (v := ?_) (a' := ?_) #[Zt,Zt,Zt,Zt,Zt,Zt,Zt,Zt,Zt,Zt,Zt,Zt,Zt,Zt,Zt,Zt,Zt,Zt,Zt,Zt,Zt,Zt,Zt,Zt,Zt,Zt,Zf,Zf,Zf,Zf,Zf,Zf] rfl rfl (Xj HT_.out (by kernel_rfl)) (fun _ _ _ h => h) (Or.inl ⟨by rfl, ?_⟩) ?_ ?_
         rotate_left
         ·intro w'
          go_simp
          with_reducible rfl
         rotate_left
         ·simp only [Act.put, Xa, Xb, Xc, Xf, Xg]
          rfl
         refine Xm (i := 26) (N := some 58) (v := ?_) (a' := ?_) #[Zt,Zt,Zt,Zt,Zt,Zt,Zt,Zt,Zt,Zt,Zt,Zt,Zt,Zt,Zt,Zt,Zt,Zt,Zt,Zt,Zt,Zt,Zt,Zt,Zt,Zt,Zt,Zf,Zf,Zf,Zf,Zf] rfl rfl (Xj HT_.out (by kernel_rfl)) (fun _ _ _ h => h) (Or.inl ⟨by rfl, ?_⟩) ?_ ?_
         rotate_left
         ·intro w'
          go_simp
          with_reducible rfl
         rotate_left
         ·simp only [Act.put, Xa, Xb, Xc, Xf, Xg]
          rfl
         refine Xm (i := 27) (N := some 59) (v := ?_) (a' := ?_) #[Zt,Zt,Zt,Zt,Zt,Zt,Zt,Zt,Zt,Zt,Zt,Zt,Zt,Zt,Zt,Zt,Zt,Zt,Zt,Zt,Zt,Zt,Zt,Zt,Zt,Zt,Zt,Zt,Zf,Zf,Zf,Zf] rfl rfl (Xj HT_.out (by kernel_rfl)) (fun _ _ _ h => h) (Or.inl ⟨by rfl, ?_⟩) ?_ ?_
         rotate_left
         ·intro w'
          go_simp
          with_reducible rfl
         rotate_left
         ·simp only [Act.put, Xa, Xb, Xc, Xf, Xg]
          rfl
         refine take_ (i := 28) (N := some 60) (v := ?_) (a' := ?_) #[Zt,Zt,Zt,Zt,Zt,Zt,Zt,Zt,Zt,Zt,Zt,Zt,Zt,Zt,Zt,Zt,Zt,Zt,Zt,Zt,Zt,Zt,Zt,Zt,Zt,Zt,Zt,Zt,Zt,Zf,Zf,Zf] rfl rfl (Xq HT_.out HW_.out (by kernel_rfl)) (fun _ _ _ h => h) (Or.inl ⟨by rfl, ?_⟩) hHeld ?_ ?_
         rotate_left
         ·rintro w' ⟨s0, s1, s2, s3, s4, s5, s6, s7⟩
          go_simp
          with_reducible rfl
         rotate_left
         ·simp only [Act.put, Xa, Xb, Xc, Xf, Xg]
          rfl
         refine Xm (i := 29) (N := some 61) (v := ?_) (a' := ?_) #[Zt,Zt,Zt,Zt,Zt,Zt,Zt,Zt,Zt,Zt,Zt,Zt,Zt,Zt,Zt,Zt,Zt,Zt,Zt,Zt,Zt,Zt,Zt,Zt,Zt,Zt,Zt,Zt,Zt,Zt,Zf,Zf] rfl rfl (Xj HT_.out (by kernel_rfl)) (fun _ _ _ h => h) (Or.inl ⟨by rfl, ?_⟩) ?_ ?_
         rotate_left
         ·intro w'
          go_simp
          with_reducible rfl
         rotate_left
         ·simp only [Act.put, Xa, Xb, Xc, Xf, Xg]
          rfl
         refine Xm (i := 30) (N := some 62) (v := ?_) (a' := ?_) #[Zt,Zt,Zt,Zt,Zt,Zt,Zt,Zt,Zt,Zt,Zt,Zt,Zt,Zt,Zt,Zt,Zt,Zt,Zt,Zt,Zt,Zt,Zt,Zt,Zt,Zt,Zt,Zt,Zt,Zt,Zt,Zf] rfl rfl (Xj HT_.out (by kernel_rfl)) (fun _ _ _ h => h) (Or.inl ⟨by rfl, ?_⟩) ?_ ?_
         rotate_left
         ·intro w'
          go_simp
          with_reducible rfl
         rotate_left
         ·simp only [Act.put, Xa, Xb, Xc, Xf, Xg]
          rfl
         refine Xm (i := 31) (N := some 6) (v := ?_) (a' := ?_) #[Zt,Zt,Zt,Zt,Zt,Zt,Zt,Zt,Zt,Zt,Zt,Zt,Zt,Zt,Zt,Zt,Zt,Zt,Zt,Zt,Zt,Zt,Zt,Zt,Zt,Zt,Zt,Zt,Zt,Zt,Zt,Zt] rfl rfl (Xj HT_.out (by kernel_rfl)) (fun _ _ _ h => h) (Or.inl ⟨by rfl, ?_⟩) ?_ ?_
         rotate_left
         ·intro w'
          go_simp
          with_reducible rfl
         rotate_left
         ·simp only [Act.put, Xa, Xb, Xc, Xf, Xg]
          rfl
         refine done_ (done_of HT_.out (by kernel_rfl)) ?_
         try go_wp2
         go_ret
         exact ⟨by first | rfl | (simp [errW_none, errW_some] <;> rfl) | (simp [*, errW_none, errW_some] <;> rfl), by repeat (first | (with_reducible first | exact HB.out | apply below_alloc | apply pw_below_drewN | apply below_drew1 | refine Xp ?_ GE179.out | refine Xp ?_ GE180.out | refine Xp ?_ GE181.out | refine Xp ?_ GE189.out | refine Xp ?_ GE190.out) | exact HB.out)⟩
        ·rw [if_neg c47] at H
         have c47b0 : decide (0 ≤ t186) = Zf := decide_eq_false c47
         clear c47
         obtain rfl := Option.some.inj H
         try go_wp2
         have n0_ := Za (Xi BK179.out)
         have n1_ := Za (Xi BK180.out)
         have n2_ := Za (Xi BK181.out)
         have n3_ := Za (Xi BK189.out)
         have n4_ := Za (Xi BK190.out)
         have n5_ := Za (below_drew1 HB.out)
         clear BK179
         clear BK180
         clear BK181
         clear BK189
         clear BK190
         clear HB
         have BK179 := n0_
         have BK180 := n1_
         have BK181 := n2_
         have BK189 := n3_
         have BK190 := n4_
         have HB := n5_
         clear n0_ n1_ n2_ n3_ n4_ n5_
         refine start_ (n := 32) (S := fun w' => w'.cell? ⟨gb190, 0, none⟩ = some (.int .i64 t186) ∧ w'.cell? ⟨gb190, 1, none⟩ = some (.int .i64 t187) ∧ w'.cell? ⟨gb190, 2, none⟩ = some (.int .i64 t188) ∧ w'.cell? ⟨gb179, 0, none⟩ = some (.int .i64 a0_0) ∧ w'.cell? ⟨gb179, 1, none⟩ = some (.int .i64 a0_1) ∧ w'.cell? ⟨gb179, 2, none⟩ = some (.int .i64 a0_2) ∧ w'.cell? ⟨gb181, 0, none⟩ = some (.int .i64 a2_0) ∧ w'.cell? ⟨gb181, 1, none⟩ = some (.int .i64 a2_1)) (ds := []) #[Zf,Zf,Zf,Zf,Zf,Zf,Zf,Zf,Zf,Zf,Zf,Zf,Zf,Zf,Zf,Zf,Zf,Zf,Zf,Zf,Zf,Zf,Zf,Zf,Zf,Zf,Zf,Zf,Zf,Zf,Zf,Zf] (by kernel_rfl) rfl rfl ⟨(Xd BK190.out 0).trans rfl, (Xd BK190.out 1).trans rfl, (Xd BK190.out 2).trans rfl, (Xd BK179.out 0).trans rfl, (Xd BK179.out 1).trans rfl, (Xd BK179.out 2).trans rfl, (Xd BK181.out 0).trans rfl, (Xd BK181.out 1).trans rfl⟩ (fun hHeld => ?_); refine with_tabW gatherumlaw06_PlaceGroup.tab6 gatherumlaw06_PlaceGroup.bits6 (fun HT_ HW_ => ?_)
         generalize wc.drew = w53 at BK179 BK180 BK181 BK189 BK190 HB hHeld ⊢
         refine take_ (i := 0) (N := some 32) (v := ?_) (a' := ?_) #[Zt,Zf,Zf,Zf,Zf,Zf,Zf,Zf,Zf,Zf,Zf,Zf,Zf,Zf,Zf,Zf,Zf,Zf,Zf,Zf,Zf,Zf,Zf,Zf,Zf,Zf,Zf,Zf,Zf,Zf,Zf,Zf] rfl rfl (Xq HT_.out HW_.out (by kernel_rfl)) (fun _ _ _ h => h) (Or.inl ⟨by rfl, ?_⟩) hHeld ?_ ?_
         rotate_left
         ·rintro w' ⟨s0, s1, s2, s3, s4, s5, s6, s7⟩
          go_simp
          with_reducible rfl
         rotate_left
         ·simp only [Act.put, Xa, Xb, Xc, Xf, Xg]
          rfl
         refine take_ (i := 1) (N := some 33) (v := ?_) (a' := ?_) #[Zt,Zt,Zf,Zf,Zf,Zf,Zf,Zf,Zf,Zf,Zf,Zf,Zf,Zf,Zf,Zf,Zf,Zf,Zf,Zf,Zf,Zf,Zf,Zf,Zf,Zf,Zf,Zf,Zf,Zf,Zf,Zf] rfl rfl (Xq HT_.out HW_.out (by kernel_rfl)) (fun _ _ _ h => h) (Or.inl ⟨by rfl, ?_⟩) hHeld ?_ ?_
         rotate_left
         ·rintro w' ⟨s0, s1, s2, s3, s4, s5, s6, s7⟩
          go_simp
          with_reducible rfl
         rotate_left
         ·simp only [Act.put, Xa, Xb, Xc, Xf, Xg]
          rfl
         refine take_ (i := 2) (N := some 34) (v := ?_) (a' := ?_) #[Zt,Zt,Zt,Zf,Zf,Zf,Zf,Zf,Zf,Zf,Zf,Zf,Zf,Zf,Zf,Zf,Zf,Zf,Zf,Zf,Zf,Zf,Zf,Zf,Zf,Zf,Zf,Zf,Zf,Zf,Zf,Zf] rfl rfl (Xq HT_.out HW_.out (by kernel_rfl)) (fun _ _ _ h => h) (Or.inl ⟨by rfl, ?_⟩) hHeld ?_ ?_
         rotate_left
         ·rintro w' ⟨s0, s1, s2, s3, s4, s5, s6, s7⟩
          go_simp
          with_reducible rfl
         rotate_left
         ·simp only [Act.put, Xa, Xb, Xc, Xf, Xg]
          rfl
         refine take_ (i := 5) (N := some 37) (v := ?_) (a' := ?_) #[Zt,Zt,Zt,Zf,Zf,Zt,Zf,Zf,Zf,Zf,Zf,Zf,Zf,Zf,Zf,Zf,Zf,Zf,Zf,Zf,Zf,Zf,Zf,Zf,Zf,Zf,Zf,Zf,Zf,Zf,Zf,Zf] rfl rfl (Xq HT_.out HW_.out (by kernel_rfl)) (fun _ _ _ h => h) (Or.inl ⟨by rfl, ?_⟩) hHeld ?_ ?_
         rotate_left
         ·rintro w' ⟨s0, s1, s2, s3, s4, s5, s6, s7⟩
          go_simp
          with_reducible rfl
         rotate_left
         ·simp only [Act.put, Xa, Xb, Xc, Xf, Xg]
          rfl
         refine one_ (i := 3) (N := some 35) #[Zt,Zt,Zt,Zt,Zf,Zt,Zf,Zf,Zf,Zf,Zf,Zf,Zf,Zf,Zf,Zf,Zf,Zf,Zf,Zf,Zf,Zf,Zf,Zf,Zf,Zf,Zf,Zf,Zf,Zf,Zf,Zf] rfl rfl (one_of HT_.out (by kernel_rfl)) (by decide) (fun K hK => ?_)
         refine goes_ Try.func15 (by kernel_rfl) rfl #[.agg #[.int .i64 a0_0, .int .i64 a0_1, .int .i64 a0_2], .agg #[.int .i64 a2_0, .int .i64 a2_1]] (by rfl) rfl rfl (by (try simp only [List.map_toArray, List.map_cons, List.map_nil]); first | done | rfl | (simp only [List.length_drop, List.length_take]; rfl)) ?_
         with_reducible refine (place_Do.calls kj7 a0_0 a0_1 a0_2 a2_0 a2_1 t200 t201 _ A40.out).mono ?_
         rintro e w54 ⟨rfl, hb⟩
         refine ⟨_, rfl, ?_⟩
         have n0_ := Za (Xe (g := gb179) (o := .cells #[.int .i64 a0_0, .int .i64 a0_1, .int .i64 a0_2] 23 (0, 0)) (bb_6 BK179.out) hb)
         have n1_ := Za (Xe (g := gb180) (o := .cells #[.int .i64 a1_0, .int .i64 a1_1, .int .i64 a1_2] 23 (0, 0)) (bb_6 BK180.out) hb)
         have n2_ := Za (Xe (g := gb181) (o := .cells #[.int .i64 a2_0, .int .i64 a2_1] 25 (0, 0)) (bb_6 BK181.out) hb)
         have n3_ := Za (Xe (g := gb189) (o := .cells #[.int .i64 t183, .int .i64 t184, .int .i64 t185] 23 (0, 0)) (bb_6 BK189.out) hb)
         have n4_ := Za (Xe (g := gb190) (o := .cells #[.int .i64 t186, .int .i64 t187, .int .i64 t188] 23 (0, 0)) (bb_6 BK190.out) hb)
         have n5_ := Za (Xo (hb_6 HB.out) hb)
         clear BK179
         clear BK180
         clear BK181
         clear BK189
         clear BK190
         clear HB
         have BK179 := n0_
         have BK180 := n1_
         have BK181 := n2_
         have BK189 := n3_
         have BK190 := n4_
         have HB := n5_
         clear n0_ n1_ n2_ n3_ n4_ n5_
         (try clear hb)
         (try clear hb2)
         (try clear hk)
         (try clear hi)
         refine hK.out _ _ ⟨(Xd BK190.out 0).trans rfl, (Xd BK190.out 1).trans rfl, (Xd BK190.out 2).trans rfl, (Xd BK179.out 0).trans rfl, (Xd BK179.out 1).trans rfl, (Xd BK179.out 2).trans rfl, (Xd BK181.out 0).trans rfl, (Xd BK181.out 1).trans rfl⟩ (fun hHeld => ?_)
         clear hK K
         refine Xr (a' := ?_) ?_ ?_
         rotate_left
         ·show Act.put _ (some 35) _ = _
          simp only [Act.put, Xa, Xb, Xc, Xf, Xg]
          rfl
         refine one_ (i := 4) (N := some 36) #[Zt,Zt,Zt,Zt,Zt,Zt,Zf,Zf,Zf,Zf,Zf,Zf,Zf,Zf,Zf,Zf,Zf,Zf,Zf,Zf,Zf,Zf,Zf,Zf,Zf,Zf,Zf,Zf,Zf,Zf,Zf,Zf] rfl rfl (one_of HT_.out (by kernel_rfl)) (by decide) (fun K hK => ?_)
         refine goes_ Try.func15 (by kernel_rfl) rfl #[.agg #[.int .i64 t186, .int .i64 t187, .int .i64 t188], .agg #[.int .i64 t200, .int .i64 t201]] (by rfl) rfl rfl (by (try simp only [List.map_toArray, List.map_cons, List.map_nil]); first | done | rfl | (simp only [List.length_drop, List.length_take]; rfl)) ?_
         with_reducible refine (place_Do.calls kj7 t186 t187 t188 t200 t201 t202 t203 _ A41.out).mono ?_
         rintro e w55 ⟨rfl, hb⟩
         refine ⟨_, rfl, ?_⟩
         have n0_ := Za (Xe (g := gb179) (o := .cells #[.int .i64 a0_0, .int .i64 a0_1, .int .i64 a0_2] 23 (0, 0)) (bb_6 BK179.out) hb)
         have n1_ := Za (Xe (g := gb180) (o := .cells #[.int .i64 a1_0, .int .i64 a1_1, .int .i64 a1_2] 23 (0, 0)) (bb_6 BK180.out) hb)
         have n2_ := Za (Xe (g := gb181) (o := .cells #[.int .i64 a2_0, .int .i64 a2_1] 25 (0, 0)) (bb_6 BK181.out) hb)
         have n3_ := Za (Xe (g := gb189) (o := .cells #[.int .i64 t183, .int .i64 t184, .int .i64 t185] 23 (0, 0)) (bb_6 BK189.out) hb)
         have n4_ := Za (Xe (g := gb190) (o := .cells #[.int .i64 t186, .int .i64 t187, .int .i64 t188] 23 (0, 0)) (bb_6 BK190.out) hb)
         have n5_ := Za (Xo (hb_6 HB.out) hb)
         clear BK179
         clear BK180
         clear BK181
         clear BK189
         clear BK190
         clear HB
         have BK179 := n0_
         have BK180 := n1_
         have BK181 := n2_
         have BK189 := n3_
         have BK190 := n4_
         have HB := n5_
         clear n0_ n1_ n2_ n3_ n4_ n5_
         (try clear hb)
         (try clear hb2)
         (try clear hk)
         (try clear hi)
         refine hK.out _ _ ⟨(Xd BK190.out 0).trans rfl, (Xd BK190.out 1).trans rfl, (Xd BK190.out 2).trans rfl, (Xd BK179.out 0).trans rfl, (Xd BK179.out 1).trans rfl, (Xd BK179.out 2).trans rfl, (Xd BK181.out 0).trans rfl, (Xd BK181.out 1).trans rfl⟩ (fun hHeld => ?_)
         clear hK K
         refine Xr (a' := ?_) ?_ ?_
         rotate_left
         ·show Act.put _ (some 36) _ = _
          simp only [Act.put, Xa, Xb, Xc, Xf, Xg]
          rfl
         refine Xm (i := 6) (N := some 38) (v := ?_) (a' := ?_) #[Zt,Zt,Zt,Zt,Zt,Zt,Zt,Zf,Zf,Zf,Zf,Zf,Zf,Zf,Zf,Zf,Zf,Zf,Zf,Zf,Zf,Zf,Zf,Zf,Zf,Zf,Zf,Zf,Zf,Zf,Zf,Zf] rfl rfl (Xj HT_.out (by kernel_rfl)) (fun _ _ _ h => h) (Or.inl ⟨by rfl, ?_⟩) ?_ ?_
         rotate_left
         ·intro w'
          go_simp
          with_reducible rfl
         rotate_left
         ·simp only [Act.put, Xa, Xb, Xc, Xf, Xg]
          rfl
         refine Xm (i := 7) (N := some 39) (v := ?_) (a' := ?_) #[Zt,Zt,Zt,Zt,Zt,Zt,Zt,Zt,Zf,Zf,Zf,Zf,Zf,Zf,Zf,Zf,Zf,Zf,Zf,Zf,Zf,Zf,Zf,Zf,Zf,Zf,Zf,Zf,Zf,Zf,Zf,Zf] rfl rfl (Xj HT_.out (by kernel_rfl)) (fun _ _ _ h => h) (Or.inl ⟨by rfl, ?_⟩) ?_ ?_
         rotate_left
         ·intro w'
          go_simp
          with_reducible rfl
         rotate_left
         ·simp only [Act.put, Xa, Xb, Xc, Xf, Xg]
          rfl
         refine Xm (i := 11) (N := some 43) (v := ?_) (a' := ?_) #[Zt,Zt,Zt,Zt,Zt,Zt,Zt,Zt,Zf,Zf,Zf,Zt,Zf,Zf,Zf,Zf,Zf,Zf,Zf,Zf,Zf,Zf,Zf,Zf,Zf,Zf,Zf,Zf,Zf,Zf,Zf,Zf] rfl rfl (Xj HT_.out (by kernel_rfl)) (fun _ _ _ h => h) (Or.inl ⟨by rfl, ?_⟩) ?_ ?_
         rotate_left
         ·intro w'
          go_simp
          with_reducible rfl
         rotate_left
         ·simp only [Act.put, Xa, Xb, Xc, Xf, Xg]
          rfl
         refine take_ (i := 8) (N := some 40) (v := ?_) (a' := ?_) #[Zt,Zt,Zt,Zt,Zt,Zt,Zt,Zt,Zt,Zf,Zf,Zt,Zf,Zf,Zf,Zf,Zf,Zf,Zf,Zf,Zf,Zf,Zf,Zf,Zf,Zf,Zf,Zf,Zf,Zf,Zf,Zf] rfl rfl (Xq HT_.out HW_.out (by kernel_rfl)) (fun _ _ _ h => h) (Or.inl ⟨by rfl, ?_⟩) hHeld ?_ ?_
         rotate_left
         ·rintro w' ⟨s0, s1, s2, s3, s4, s5, s6, s7⟩
          go_simp
          with_reducible rfl
         rotate_left
         ·simp only [Act.put, Xa, Xb, Xc, Xf, Xg]
          rfl
         refine take_ (i := 9) (N := some 41) (v := ?_) (a' := ?_) #[Zt,Zt,Zt,Zt,Zt,Zt,Zt,Zt,Zt,Zt,Zf,Zt,Zf,Zf,Zf,Zf,Zf,Zf,Zf,Zf,Zf,Zf,Zf,Zf,Zf,Zf,Zf,Zf,Zf,Zf,Zf,Zf] rfl rfl (Xq HT_.out HW_.out (by kernel_rfl)) (fun _ _ _ h => h) (Or.inl ⟨by rfl, ?_⟩) hHeld ?_ ?_
         rotate_left
         ·rintro w' ⟨s0, s1, s2, s3, s4, s5, s6, s7⟩
          go_simp
          with_reducible rfl
         rotate_left
         ·simp only [Act.put, Xa, Xb, Xc, Xf, Xg]
          rfl
         refine one_ (i := 10) (N := some 42) #[Zt,Zt,Zt,Zt,Zt,Zt,Zt,Zt,Zt,Zt,Zt,Zt,Zf,Zf,Zf,Zf,Zf,Zf,Zf,Zf,Zf,Zf,Zf,Zf,Zf,Zf,Zf,Zf,Zf,Zf,Zf,Zf] rfl rfl (one_of HT_.out (by kernel_rfl)) (by decide) (fun K hK => ?_)
         refine goes_ Try.func53 (by kernel_rfl) rfl #[.agg #[.int .i64 a0_0, .int .i64 a0_1, .int .i64 a0_2], .agg #[.int .i64 t186, .int .i64 t187, .int .i64 t188]] (by rfl) rfl rfl (by (try simp only [List.map_toArray, List.map_cons, List.map_nil]); first | done | rfl | (simp only [List.length_drop, List.length_take]; rfl)) ?_
         with_reducible refine (place_Then.calls kj7 a0_0 a0_1 a0_2 t186 t187 t188 t204 t205 t206 _ A43.out).mono ?_
         rintro e w56 ⟨rfl, hb⟩
         refine ⟨_, rfl, ?_⟩
         have n0_ := Za (Xe (g := gb179) (o := .cells #[.int .i64 a0_0, .int .i64 a0_1, .int .i64 a0_2] 23 (0, 0)) (bb_6 BK179.out) hb)
         have n1_ := Za (Xe (g := gb180) (o := .cells #[.int .i64 a1_0, .int .i64 a1_1, .int .i64 a1_2] 23 (0, 0)) (bb_6 BK180.out) hb)
         have n2_ := Za (Xe (g := gb181) (o := .cells #[.int .i64 a2_0, .int .i64 a2_1] 25 (0, 0)) (bb_6 BK181.out) hb)
         have n3_ := Za (Xe (g := gb189) (o := .cells #[.int .i64 t183, .int .i64 t184, .int .i64 t185] 23 (0, 0)) (bb_6 BK189.out) hb)
         have n4_ := Za (Xe (g := gb190) (o := .cells #[.int .i64 t186, .int .i64 t187, .int .i64 t188] 23 (0, 0)) (bb_6 BK190.out) hb)
         have n5_ := Za (Xo (hb_6 HB.out) hb)
         clear BK179
         clear BK180
         clear BK181
         clear BK189
         clear BK190
         clear HB
         have BK179 := n0_
         have BK180 := n1_
         have BK181 := n2_
         have BK189 := n3_
         have BK190 := n4_
         have HB := n5_
         clear n0_ n1_ n2_ n3_ n4_ n5_
         (try clear hb)
         (try clear hb2)
         (try clear hk)
         (try clear hi)
         refine hK.out _ _ ⟨(Xd BK190.out 0).trans rfl, (Xd BK190.out 1).trans rfl, (Xd BK190.out 2).trans rfl, (Xd BK179.out 0).trans rfl, (Xd BK179.out 1).trans rfl, (Xd BK179.out 2).trans rfl, (Xd BK181.out 0).trans rfl, (Xd BK181.out 1).trans rfl⟩ (fun hHeld => ?_)
         clear hK K
         refine Xr (a' := ?_) ?_ ?_
         rotate_left
         ·show Act.put _ (some 42) _ = _
          simp only [Act.put, Xa, Xb, Xc, Xf, Xg]
          rfl
         refine Xm (i := 12) (N := some 44) (v := ?_) (a' := ?_) #[Zt,Zt,Zt,Zt,Zt,Zt,Zt,Zt,Zt,Zt,Zt,Zt,Zt,Zf,Zf,Zf,Zf,Zf,Zf,Zf,Zf,Zf,Zf,Zf,Zf,Zf,Zf,Zf,Zf,Zf,Zf,Zf] rfl rfl (Xj HT_.out (by kernel_rfl)) (fun _ _ _ h => h) (Or.inl ⟨by rfl, ?_⟩) ?_ ?_
         rotate_left
         ·intro w'
          go_simp
          with_reducible rfl
         rotate_left
         ·simp only [Act.put, Xa, Xb, Xc, Xf, Xg]
          rfl
         refine Xm (i := 13) (N := some 45) (v := ?_) (a' := ?_) #[Zt,Zt,Zt,Zt,Zt,Zt,Zt,Zt,Zt,Zt,Zt,Zt,Zt,Zt,Zf,Zf,Zf,Zf,Zf,Zf,Zf,Zf,Zf,Zf,Zf,Zf,Zf,Zf,Zf,Zf,Zf,Zf] rfl rfl (Xj HT_.out (by kernel_rfl)) (fun _ _ _ h => h) (Or.inl ⟨by rfl, ?_⟩) ?_ ?_
         rotate_left
         ·intro w'
          go_simp
          with_reducible rfl
         rotate_left
         ·simp only [Act.put, Xa, Xb, Xc, Xf, Xg]
          rfl
         refine Xm (i := 14) (N := some 46) (v := ?_) (a' := ?_) #[Zt,Zt,Zt,Zt,Zt,Zt,Zt,Zt,Zt,Zt,Zt,Zt,Zt,Zt,Zt,Zf,Zf,Zf,Zf,Zf,Zf,Zf,Zf,Zf,Zf,Zf,Zf,Zf,Zf,Zf,Zf,Zf] rfl rfl (Xj HT_.out (by kernel_rfl)) (fun _ _ _ h => h) (Or.inl ⟨by rfl, ?_⟩) ?_ ?_
         rotate_left
         ·intro w'
          go_simp
          with_reducible rfl
         rotate_left
         ·simp only [Act.put, Xa, Xb, Xc, Xf, Xg]
          rfl
         refine Xm (i := 18) (N := some 50) (v := ?_) (a' := ?_) #[Zt,Zt,Zt,Zt,Zt,Zt,Zt,Zt,Zt,Zt,Zt,Zt,Zt,Zt,Zt,Zf,Zf,Zf,Zt,Zf,Zf,Zf,Zf,Zf,Zf,Zf,Zf,Zf,Zf,Zf,Zf,Zf] rfl rfl (Xj HT_.out (by kernel_rfl)) (fun _ _ _ h => h) (Or.inl ⟨by rfl, ?_⟩) ?_ ?_
         rotate_left
         ·intro w'
          go_simp
          with_reducible rfl
         rotate_left
         ·simp only [Act.put, Xa, Xb, Xc, Xf, Xg]
          rfl
         refine take_ (i := 15) (N := some 47) (v := ?_) (a' := ?_) #[Zt,Zt,Zt,Zt,Zt,Zt,Zt,Zt,Zt,Zt,Zt,Zt,Zt,Zt,Zt,Zt,Zf,Zf,Zt,Zf,Zf,Zf,Zf,Zf,Zf,Zf,Zf,Zf,Zf,Zf,Zf,Zf] rfl rfl (Xq HT_.out HW_.out (by kernel_rfl)) (fun _ _ _ h => h) (Or.inl ⟨by rfl, ?_⟩) hHeld ?_ ?_
         rotate_left
         ·rintro w' ⟨s0, s1, s2, s3, s4, s5, s6, s7⟩
          go_simp
          with_reducible rfl
         rotate_left
         ·simp only [Act.put, Xa, Xb, Xc, Xf, Xg]
          rfl
         refine take_ (i := 16) (N := some 48) (v := ?_) (a' := ?_) #[Zt,Zt,Zt,Zt,Zt,Zt,Zt,Zt,Zt,Zt,Zt,Zt,Zt,Zt,Zt,Zt,Zt,Zf,Zt,Zf,Zf,Zf,Zf,Zf,Zf,Zf,Zf,Zf,Zf,Zf,Zf,Zf] rfl rfl (Xq HT_.out HW_.out (by kernel_rfl)) (fun _ _ _ h => h) (Or.inl ⟨by rfl, ?_⟩) hHeld ?_ ?_
         rotate_left
         ·rintro w' ⟨s0, s1, s2, s3, s4, s5, s6, s7⟩
          go_simp
          with_reducible rfl
         rotate_left
         ·simp only [Act.put, Xa, Xb, Xc, Xf, Xg]
          rfl
         refine one_ (i := 17) (N := some 49) #[Zt,Zt,Zt,Zt,Zt,Zt,Zt,Zt,Zt,Zt,Zt,Zt,Zt,Zt,Zt,Zt,Zt,Zt,Zt,Zf,Zf,Zf,Zf,Zf,Zf,Zf,Zf,Zf,Zf,Zf,Zf,Zf] rfl rfl (one_of HT_.out (by kernel_rfl)) (by decide) (fun K hK => ?_)
         refine goes_ Try.func53 (by kernel_rfl) rfl #[.agg #[.int .i64 t186, .int .i64 t187, .int .i64 t188], .agg #[.int .i64 a0_0, .int .i64 a0_1, .int .i64 a0_2]] (by rfl) rfl rfl (by (try simp only [List.map_toArray, List.map_cons, List.map_nil]); first | done | rfl | (simp only [List.length_drop, List.length_take]; rfl)) ?_
         with_reducible refine (place_Then.calls kj7 t186 t187 t188 a0_0 a0_1 a0_2 t207 t208 t209 _ A45.out).mono ?_
         rintro e w57 ⟨rfl, hb⟩
         refine ⟨_, rfl, ?_⟩
         have n0_ := Za (Xe (g := gb179) (o := .cells #[.int .i64 a0_0, .int .i64 a0_1, .int .i64 a0_2] 23 (0, 0)) (bb_6 BK179.out) hb)
         have n1_ := Za (Xe (g := gb180) (o := .cells #[.int .i64 a1_0, .int .i64 a1_1, .int .i64 a1_2] 23 (0, 0)) (bb_6 BK180.out) hb)
         have n2_ := Za (Xe (g := gb181) (o := .cells #[.int .i64 a2_0, .int .i64 a2_1] 25 (0, 0)) (bb_6 BK181.out) hb)
         have n3_ := Za (Xe (g := gb189) (o := .cells #[.int .i64 t183, .int .i64 t184, .int .i64 t185] 23 (0, 0)) (bb_6 BK189.out) hb)
         have n4_ := Za (Xe (g := gb190) (o := .cells #[.int .i64 t186, .int .i64 t187, .int .i64 t188] 23 (0, 0)) (bb_6 BK190.out) hb)
         have n5_ := Za (Xo (hb_6 HB.out) hb)
         clear BK179
         clear BK180
         clear BK181
         clear BK189
         clear BK190
         clear HB
         have BK179 := n0_
         have BK180 := n1_
         have BK181 := n2_
         have BK189 := n3_
         have BK190 := n4_
         have HB := n5_
         clear n0_ n1_ n2_ n3_ n4_ n5_
         (try clear hb)
         (try clear hb2)
         (try clear hk)
         (try clear hi)
         refine hK.out _ _ ⟨(Xd BK190.out 0).trans rfl, (Xd BK190.out 1).trans rfl, (Xd BK190.out 2).trans rfl, (Xd BK179.out 0).trans rfl, (Xd BK179.out 1).trans rfl, (Xd BK179.out 2).trans rfl, (Xd BK181.out 0).trans rfl, (Xd BK181.out 1).trans rfl⟩ (fun hHeld => ?_)
         clear hK K
         refine Xr (a' := ?_) ?_ ?_
         rotate_left
         ·show Act.put _ (some 49) _ = _
          simp only [Act.put, Xa, Xb, Xc, Xf, Xg]
          rfl
         refine Xm (i := 19) (N := some 51) (v := ?_) (a' := ?_) #[Zt,Zt,Zt,Zt,Zt,Zt,Zt,Zt,Zt,Zt,Zt,Zt,Zt,Zt,Zt,Zt,Zt,Zt,Zt,Zt,Zf,Zf,Zf,Zf,Zf,Zf,Zf,Zf,Zf,Zf,Zf,Zf] rfl rfl (Xj HT_.out (by kernel_rfl)) (fun _ _ _ h => h) (Or.inl ⟨by rfl, ?_⟩) ?_ ?_
         rotate_left
         ·intro w'
          go_simp
          with_reducible rfl
         rotate_left
         ·simp only [Act.put, Xa, Xb, Xc, Xf, Xg]
          rfl
         refine Xm (i := 20) (N := some 52) (v := ?_) (a' := ?_) #[Zt,Zt,Zt,Zt,Zt,Zt,Zt,Zt,Zt,Zt,Zt,Zt,Zt,Zt,Zt,Zt,Zt,Zt,Zt,Zt,Zt,Zf,Zf,Zf,Zf,Zf,Zf,Zf,Zf,Zf,Zf,Zf] rfl rfl (Xj HT_.out (by kernel_rfl)) (fun _ _ _ h => h) (Or.inl ⟨by rfl, ?_⟩) ?_ ?_
         rotate_left
         ·intro w'
          go_simp
          with_reducible rfl
         rotate_left
         ·simp only [Act.put, Xa, Xb, Xc, Xf, Xg]
          rfl
         refine Xm (i := 21) (N := some 53) (v := ?_) (a' := ?_) #[Zt,Zt,Zt,Zt,Zt,Zt,Zt,Zt,Zt,Zt,Zt,Zt,Zt,Zt,Zt,Zt,Zt,Zt,Zt,Zt,Zt,Zt,Zf,Zf,Zf,Zf,Zf,Zf,Zf,Zf,Zf,Zf] rfl rfl (Xj HT_.out (by kernel_rfl)) (fun _ _ _ h => h) (Or.inl ⟨by rfl, ?_⟩) ?_ ?_
         rotate_left
         ·intro w'
          go_simp
          with_reducible rfl
         rotate_left
         ·simp only [Act.put, Xa, Xb, Xc, Xf, Xg]
          rfl
         refine Xm (i := 22) (N := some 54) (v := ?_) (a' := ?_) #[Zt,Zt,Zt,Zt,Zt,Zt,Zt,Zt,Zt,Zt,Zt,Zt,Zt,Zt,Zt,Zt,Zt,Zt,Zt,Zt,Zt,Zt,Zt,Zf,Zf,Zf,Zf,Zf,Zf,Zf,Zf,Zf] rfl rfl (Xj HT_.out (by kernel_rfl)) (fun _ _ _ h => h) (Or.inl ⟨by rfl, ?_⟩) ?_ ?_
         rotate_left
         ·intro w'
          go_simp
          with_reducible rfl
         rotate_left
         ·simp only [Act.put, Xa, Xb, Xc, Xf, Xg]
          rfl
         refine take_ (i := 23) (N := some 55) (v := ?_) (a' := ?_) #[Zt,Zt,Zt,Zt,Zt,Zt,Zt,Zt,Zt,Zt,Zt,Zt,Zt,Zt,Zt,Zt,Zt,Zt,Zt,Zt,Zt,Zt,Zt,Zt,Zf,Zf,Zf,Zf,Zf,Zf,Zf,Zf] rfl rfl (Xq HT_.out HW_.out (by kernel_rfl)) (fun _ _ _ h => h) (Or.inl ⟨by rfl, ?_⟩) hHeld ?_ ?_
         rotate_left
         ·rintro w' ⟨s0, s1, s2, s3, s4, s5, s6, s7⟩
          go_simp
          with_reducible rfl
         rotate_left
         ·simp only [Act.put, Xa, Xb, Xc, Xf, Xg]
          rfl
         refine Xm (i := 24) (N := some 56) (v := ?_) (a' := ?_) #[Zt,Zt,Zt,Zt,Zt,Zt,Zt,Zt,Zt,Zt,Zt,Zt,Zt,Zt,Zt,Zt,Zt,Zt,Zt,Zt,Zt,Zt,Zt,Zt,Zt,Zf,Zf,Zf,Zf,Zf,Zf,Zf] rfl rfl (Xj HT_.out (by kernel_rfl)) (fun _ _ _ h => h) (Or.inl ⟨by rfl, ?_⟩) ?_ ?_
         rotate_left
         ·intro w'
          go_simp
          with_reducible rfl
         rotate_left
         ·simp only [Act.put, Xa, Xb, Xc, Xf, Xg]
          rfl
         refine Xm (i := 25) (N := some 57) (v := ?_) (a' := ?_) #[Zt,Zt,Zt,Zt,Zt,Zt,Zt,Zt,Zt,Zt,Zt,Zt,Zt,Zt,Zt,Zt,Zt,Zt,Zt,Zt,Zt,Zt,Zt,Zt,Zt,Zt,Zf,Zf,Zf,Zf,Zf,Zf] rfl rfl (Xj HT_.out (by kernel_rfl)) (fun _ _ _ h => h) (Or.inl ⟨by rfl, ?_⟩) ?_ ?_
         rotate_left
         ·intro w'
          go_simp
          with_reducible rfl
         rotate_left
         ·simp only [Act.put, Xa, Xb, Xc, Xf, Xg]
          rfl
         refine Xm (i := 26) (N := some 58) (v := ?_) (a' := ?_) #[Zt,Zt,Zt,Zt,Zt,Zt,Zt,Zt,Zt,Zt,Zt,Zt,Zt,Zt,Zt,Zt,Zt,Zt,Zt,Zt,Zt,Zt,Zt,Zt,Zt,Zt,Zt,Zf,Zf,Zf,Zf,Zf] rfl rfl (Xj HT_.out (by kernel_rfl)) (fun _ _ _ h => h) (Or.inl ⟨by rfl, ?_⟩) ?_ ?_
         rotate_left
         ·intro w'
          go_simp
          with_reducible rfl
         rotate_left
         ·simp only [Act.put, Xa, Xb, Xc, Xf, Xg]
          rfl
         refine Xm (i := 27) (N := some 59) (v := undef) (a' := ?_) #[Zt,Zt,Zt,Zt,Zt,Zt,Zt,Zt,Zt,Zt,Zt,Zt,Zt,Zt,Zt,Zt,Zt,Zt,Zt,Zt,Zt,Zt,Zt,Zt,Zt,Zt,Zt,Zt,Zf,Zf,Zf,Zf] rfl rfl (Xj HT_.out (by kernel_rfl)) (fun _ _ _ h => h) (Or.inr ⟨by rfl, rfl⟩) ?_ ?_
         rotate_left
         ·simp only [Act.put, Xa, Xb, Xc, Xf, Xg]
          rfl
         refine Xm (i := 28) (N := some 60) (v := undef) (a' := ?_) #[Zt,Zt,Zt,Zt,Zt,Zt,Zt,Zt,Zt,Zt,Zt,Zt,Zt,Zt,Zt,Zt,Zt,Zt,Zt,Zt,Zt,Zt,Zt,Zt,Zt,Zt,Zt,Zt,Zt,Zf,Zf,Zf] rfl rfl (Xj HT_.out (by kernel_rfl)) (fun _ _ _ h => h) (Or.inr ⟨by rfl, rfl⟩) ?_ ?_
         rotate_left
         ·simp only [Act.put, Xa, Xb, Xc, Xf, Xg]
          rfl
         refine Xm (i := 29) (N := some 61) (v := undef) (a' := ?_) #[Zt,Zt,Zt,Zt,Zt,Zt,Zt,Zt,Zt,Zt,Zt,Zt,Zt,Zt,Zt,Zt,Zt,Zt,Zt,Zt,Zt,Zt,Zt,Zt,Zt,Zt,Zt,Zt,Zt,Zt,Zf,Zf] rfl rfl (Xj HT_.out (by kernel_rfl)) (fun _ _ _ h => h) (Or.inr ⟨by rfl, rfl⟩) ?_ ?_
         rotate_left
         ·simp only [Act.put, Xa, Xb, Xc, Xf, Xg]
          rfl
         refine Xm (i := 30) (N := some 62) (v := ?_) (a' := ?_) #[Zt,Zt,Zt,Zt,Zt,Zt,Zt,Zt,Zt,Zt,Zt,Zt,Zt,Zt,Zt,Zt,Zt,Zt,Zt,Zt,Zt,Zt,Zt,Zt,Zt,Zt,Zt,Zt,Zt,Zt,Zt,Zf] rfl rfl (Xj HT_.out (by kernel_rfl)) (fun _ _ _ h => h) (Or.inl ⟨by rfl, ?_⟩) ?_ ?_
         rotate_left
         ·intro w'
          go_simp
          with_reducible rfl
         rotate_left
         ·simp only [Act.put, Xa, Xb, Xc, Xf, Xg]
          rfl
         refine Xm (i := 31) (N := some 6) (v := ?_) (a' := ?_) #[Zt,Zt,Zt,Zt,Zt,Zt,Zt,Zt,Zt,Zt,Zt,Zt,Zt,Zt,Zt,Zt,Zt,Zt,Zt,Zt,Zt,Zt,Zt,Zt,Zt,Zt,Zt,Zt,Zt,Zt,Zt,Zt] rfl rfl (Xj HT_.out (by kernel_rfl)) (fun _ _ _ h => h) (Or.inl ⟨by rfl, ?_⟩) ?_ ?_
         rotate_left
         ·intro w'
          go_simp
          with_reducible rfl
         rotate_left
         ·simp only [Act.put, Xa, Xb, Xc, Xf, Xg]
          rfl
         refine done_ (done_of HT_.out (by kernel_rfl)) ?_
         try go_wp2
         go_ret
         exact ⟨by first | rfl | (simp [errW_none, errW_some] <;> rfl) | (simp [*, errW_none, errW_some] <;> rfl), by repeat (first | (with_reducible first | exact HB.out | apply below_alloc | apply pw_below_drewN | apply below_drew1 | refine Xp ?_ GE179.out | refine Xp ?_ GE180.out | refine Xp ?_ GE181.out | refine Xp ?_ GE189.out | refine Xp ?_ GE190.out) | exact HB.out)⟩
       ·rw [if_neg c46] at H
        have c46b0 : (t207 == 0 && (t208 == 0 && (t209 == 0))) = Zf := by simpa using c46
        (try (have c46b1 : decide (t207 = 0 && (t208 == 0 && (t209 == 0))) = Zf := by simpa using c46))
        (try (have c46b2 : (t207 == 0 && (t208 == 0 && (t209 == 0))) = Zf := by simpa using c46))
        (try (have c46b3 : ¬ (t207 = 0 && (t208 == 0 && (t209 == 0))) := by simpa using c46))
        clear c46
        obtain rfl := Option.some.inj H
        try go_wp2
        have n0_ := Za (Xi BK179.out)
        have n1_ := Za (Xi BK180.out)
        have n2_ := Za (Xi BK181.out)
        have n3_ := Za (Xi BK189.out)
        have n4_ := Za (Xi BK190.out)
        have n5_ := Za (below_drew1 HB.out)
        clear BK179
        clear BK180
        clear BK181
        clear BK189
        clear BK190
        clear HB
        have BK179 := n0_
        have BK180 := n1_
        have BK181 := n2_
        have BK189 := n3_
        have BK190 := n4_
        have HB := n5_
        clear n0_ n1_ n2_ n3_ n4_ n5_
        refine start_ (n := 32) (S := fun w' => w'.cell? ⟨gb190, 0, none⟩ = some (.int .i64 t186) ∧ w'.cell? ⟨gb190, 1, none⟩ = some (.int .i64 t187) ∧ w'.cell? ⟨gb190, 2, none⟩ = some (.int .i64 t188) ∧ w'.cell? ⟨gb179, 0, none⟩ = some (.int .i64 a0_0) ∧ w'.cell? ⟨gb179, 1, none⟩ = some (.int .i64 a0_1) ∧ w'.cell? ⟨gb179, 2, none⟩ = some (.int .i64 a0_2) ∧ w'.cell? ⟨gb181, 0, none⟩ = some (.int .i64 a2_0) ∧ w'.cell? ⟨gb181, 1, none⟩ = some (.int .i64 a2_1)) (ds := []) #[Zf,Zf,Zf,Zf,Zf,Zf,Zf,Zf,Zf,Zf,Zf,Zf,Zf,Zf,Zf,Zf,Zf,Zf,Zf,Zf,Zf,Zf,Zf,Zf,Zf,Zf,Zf,Zf,Zf,Zf,Zf,Zf] (by kernel_rfl) rfl rfl ⟨(Xd BK190.out 0).trans rfl, (Xd BK190.out 1).trans rfl, (Xd BK190.out 2).trans rfl, (Xd BK179.out 0).trans rfl, (Xd BK179.out 1).trans rfl, (Xd BK179.out 2).trans rfl, (Xd BK181.out 0).trans rfl, (Xd BK181.out 1).trans rfl⟩ (fun hHeld => ?_); refine with_tabW gatherumlaw06_PlaceGroup.tab6 gatherumlaw06_PlaceGroup.bits6 (fun HT_ HW_ => ?_)
        generalize wc.drew = w58 at BK179 BK180 BK181 BK189 BK190 HB hHeld ⊢
        refine take_ (i := 0) (N := some 32) (v := ?_) (a' := ?_) #[Zt,Zf,Zf,Zf,Zf,Zf,Zf,Zf,Zf,Zf,Zf,Zf,Zf,Zf,Zf,Zf,Zf,Zf,Zf,Zf,Zf,Zf,Zf,Zf,Zf,Zf,Zf,Zf,Zf,Zf,Zf,Zf] rfl rfl (Xq HT_.out HW_.out (by kernel_rfl)) (fun _ _ _ h => h) (Or.inl ⟨by rfl, ?_⟩) hHeld ?_ ?_
        rotate_left
        ·rintro w' ⟨s0, s1, s2, s3, s4, s5, s6, s7⟩
         go_simp
         with_reducible rfl
        rotate_left
        ·simp only [Act.put, Xa, Xb, Xc, Xf, Xg]
         rfl
        refine take_ (i := 1) (N := some 33) (v := ?_) (a' := ?_) #[Zt,Zt,Zf,Zf,Zf,Zf,Zf,Zf,Zf,Zf,Zf,Zf,Zf,Zf,Zf,Zf,Zf,Zf,Zf,Zf,Zf,Zf,Zf,Zf,Zf,Zf,Zf,Zf,Zf,Zf,Zf,Zf] rfl rfl (Xq HT_.out HW_.out (by kernel_rfl)) (fun _ _ _ h => h) (Or.inl ⟨by rfl, ?_⟩) hHeld ?_ ?_
        rotate_left
        ·rintro w' ⟨s0, s1, s2, s3, s4, s5, s6, s7⟩
         go_simp
         with_reducible rfl
        rotate_left
        ·simp only [Act.put, Xa, Xb, Xc, Xf, Xg]
         rfl
        refine take_ (i := 2) (N := some 34) (v := ?_) (a' := ?_) #[Zt,Zt,Zt,Zf,Zf,Zf,Zf,Zf,Zf,Zf,Zf,Zf,Zf,Zf,Zf,Zf,Zf,Zf,Zf,Zf,Zf,Zf,Zf,Zf,Zf,Zf,Zf,Zf,Zf,Zf,Zf,Zf] rfl rfl (Xq HT_.out HW_.out (by kernel_rfl)) (fun _ _ _ h => h) (Or.inl ⟨by rfl, ?_⟩) hHeld ?_ ?_
        rotate_left
        ·rintro w' ⟨s0, s1, s2, s3, s4, s5, s6, s7⟩
         go_simp
         with_reducible rfl
        rotate_left
        ·simp only [Act.put, Xa, Xb, Xc, Xf, Xg]
         rfl
        refine take_ (i := 5) (N := some 37) (v := ?_) (a' := ?_) #[Zt,Zt,Zt,Zf,Zf,Zt,Zf,Zf,Zf,Zf,Zf,Zf,Zf,Zf,Zf,Zf,Zf,Zf,Zf,Zf,Zf,Zf,Zf,Zf,Zf,Zf,Zf,Zf,Zf,Zf,Zf,Zf] rfl rfl (Xq HT_.out HW_.out (by kernel_rfl)) (fun _ _ _ h => h) (Or.inl ⟨by rfl, ?_⟩) hHeld ?_ ?_
        rotate_left
        ·rintro w' ⟨s0, s1, s2, s3, s4, s5, s6, s7⟩
         go_simp
         with_reducible rfl
        rotate_left
        ·simp only [Act.put, Xa, Xb, Xc, Xf, Xg]
         rfl
        refine one_ (i := 3) (N := some 35) #[Zt,Zt,Zt,Zt,Zf,Zt,Zf,Zf,Zf,Zf,Zf,Zf,Zf,Zf,Zf,Zf,Zf,Zf,Zf,Zf,Zf,Zf,Zf,Zf,Zf,Zf,Zf,Zf,Zf,Zf,Zf,Zf] rfl rfl (one_of HT_.out (by kernel_rfl)) (by decide) (fun K hK => ?_)
        refine goes_ Try.func15 (by kernel_rfl) rfl #[.agg #[.int .i64 a0_0, .int .i64 a0_1, .int .i64 a0_2], .agg #[.int .i64 a2_0, .int .i64 a2_1]] (by rfl) rfl rfl (by (try simp only [List.map_toArray, List.map_cons, List.map_nil]); first | done | rfl | (simp only [List.length_drop, List.length_take]; rfl)) ?_
        with_reducible refine (place_Do.calls kj7 a0_0 a0_1 a0_2 a2_0 a2_1 t200 t201 _ A40.out).mono ?_
        rintro e w59 ⟨rfl, hb⟩
        refine ⟨_, rfl, ?_⟩
        have n0_ := Za (Xe (g := gb179) (o := .cells #[.int .i64 a0_0, .int .i64 a0_1, .int .i64 a0_2] 23 (0, 0)) (bb_6 BK179.out) hb)
        have n1_ := Za (Xe (g := gb180) (o := .cells #[.int .i64 a1_0, .int .i64 a1_1, .int .i64 a1_2] 23 (0, 0)) (bb_6 BK180.out) hb)
        have n2_ := Za (Xe (g := gb181) (o := .cells #[.int .i64 a2_0, .int .i64 a2_1] 25 (0, 0)) (bb_6 BK181.out) hb)
        have n3_ := Za (Xe (g := gb189) (o := .cells #[.int .i64 t183, .int .i64 t184, .int .i64 t185] 23 (0, 0)) (bb_6 BK189.out) hb)
        have n4_ := Za (Xe (g := gb190) (o := .cells #[.int .i64 t186, .int .i64 t187, .int .i64 t188] 23 (0, 0)) (bb_6 BK190.out) hb)
        have n5_ := Za (Xo (hb_6 HB.out) hb)
        clear BK179
        clear BK180
        clear BK181
        clear BK189
        clear BK190
        clear HB
        have BK179 := n0_
        have BK180 := n1_
        have BK181 := n2_
        have BK189 := n3_
        have BK190 := n4_
        have HB := n5_
        clear n0_ n1_ n2_ n3_ n4_ n5_
        (try clear hb)
        (try clear hb2)
        (try clear hk)
        (try clear hi)
        refine hK.out _ _ ⟨(Xd BK190.out 0).trans rfl, (Xd BK190.out 1).trans rfl, (Xd BK190.out 2).trans rfl, (Xd BK179.out 0).trans rfl, (Xd BK179.out 1).trans rfl, (Xd BK179.out 2).trans rfl, (Xd BK181.out 0).trans rfl, (Xd BK181.out 1).trans rfl⟩ (fun hHeld => ?_)
        clear hK K
        refine Xr (a' := ?_) ?_ ?_
        rotate_left
        ·show Act.put _ (some 35) _ = _
         simp only [Act.put, Xa, Xb, Xc, Xf, Xg]
         rfl
        refine one_ (i := 4) (N := some 36) #[Zt,Zt,Zt,Zt,Zt,Zt,Zf,Zf,Zf,Zf,Zf,Zf,Zf,Zf,Zf,Zf,Zf,Zf,Zf,Zf,Zf,Zf,Zf,Zf,Zf,Zf,Zf,Zf,Zf,Zf,Zf,Zf] rfl rfl (one_of HT_.out (by kernel_rfl)) (by decide) (fun K hK => ?_)
        refine goes_ Try.func15 (by kernel_rfl) rfl #[.agg #[.int .i64 t186, .int .i64 t187, .int .i64 t188], .agg #[.int .i64 t200, .int .i64 t201]] (by rfl) rfl rfl (by (try simp only [List.map_toArray, List.map_cons, List.map_nil]); first | done | rfl | (simp only [List.length_drop, List.length_take]; rfl)) ?_
        with_reducible refine (place_Do.calls kj7 t186 t187 t188 t200 t201 t202 t203 _ A41.out).mono ?_
        rintro e w60 ⟨rfl, hb⟩
        refine ⟨_, rfl, ?_⟩
        have n0_ := Za (Xe (g := gb179) (o := .cells #[.int .i64 a0_0, .int .i64 a0_1, .int .i64 a0_2] 23 (0, 0)) (bb_6 BK179.out) hb)
        have n1_ := Za (Xe (g := gb180) (o := .cells #[.int .i64 a1_0, .int .i64 a1_1, .int .i64 a1_2] 23 (0, 0)) (bb_6 BK180.out) hb)
        have n2_ := Za (Xe (g := gb181) (o := .cells #[.int .i64 a2_0, .int .i64 a2_1] 25 (0, 0)) (bb_6 BK181.out) hb)
        have n3_ := Za (Xe (g := gb189) (o := .cells #[.int .i64 t183, .int .i64 t184, .int .i64 t185] 23 (0, 0)) (bb_6 BK189.out) hb)
        have n4_ := Za (Xe (g := gb190) (o := .cells #[.int .i64 t186, .int .i64 t187, .int .i64 t188] 23 (0, 0)) (bb_6 BK190.out) hb)
        have n5_ := Za (Xo (hb_6 HB.out) hb)
        clear BK179
        clear BK180
        clear BK181
        clear BK189
        clear BK190
        clear HB
        have BK179 := n0_
        have BK180 := n1_
        have BK181 := n2_
        have BK189 := n3_
        have BK190 := n4_
        have HB := n5_
        clear n0_ n1_ n2_ n3_ n4_ n5_
        (try clear hb)
        (try clear hb2)
        (try clear hk)
        (try clear hi)
        refine hK.out _ _ ⟨(Xd BK190.out 0).trans rfl, (Xd BK190.out 1).trans rfl, (Xd BK190.out 2).trans rfl, (Xd BK179.out 0).trans rfl, (Xd BK179.out 1).trans rfl, (Xd BK179.out 2).trans rfl, (Xd BK181.out 0).trans rfl, (Xd BK181.out 1).trans rfl⟩ (fun hHeld => ?_)
        clear hK K
        refine Xr (a' := ?_) ?_ ?_
        rotate_left
        ·show Act.put _ (some 36) _ = _
         simp only [Act.put, Xa, Xb, Xc, Xf, Xg]
         rfl
        refine Xm (i := 6) (N := some 38) (v := ?_) (a' := ?_) #[Zt,Zt,Zt,Zt,Zt,Zt,Zt,Zf,Zf,Zf,Zf,Zf,Zf,Zf,Zf,Zf,Zf,Zf,Zf,Zf,Zf,Zf,Zf,Zf,Zf,Zf,Zf,Zf,Zf,Zf,Zf,Zf] rfl rfl (Xj HT_.out (by kernel_rfl)) (fun _ _ _ h => h) (Or.inl ⟨by rfl, ?_⟩) ?_ ?_
        rotate_left
        ·intro w'
         go_simp
         with_reducible rfl
        rotate_left
        ·simp only [Act.put, Xa, Xb, Xc, Xf, Xg]
         rfl
        refine Xm (i := 7) (N := some 39) (v := ?_) (a' := ?_) #[Zt,Zt,Zt,Zt,Zt,Zt,Zt,Zt,Zf,Zf,Zf,Zf,Zf,Zf,Zf,Zf,Zf,Zf,Zf,Zf,Zf,Zf,Zf,Zf,Zf,Zf,Zf,Zf,Zf,Zf,Zf,Zf] rfl rfl (Xj HT_.out (by kernel_rfl)) (fun _ _ _ h => h) (Or.inl ⟨by rfl, ?_⟩) ?_ ?_
        rotate_left
        ·intro w'
         go_simp
         with_reducible rfl
        rotate_left
        ·simp only [Act.put, Xa, Xb, Xc, Xf, Xg]
         rfl
        refine Xm (i := 11) (N := some 43) (v := ?_) (a' := ?_) #[Zt,Zt,Zt,Zt,Zt,Zt,Zt,Zt,Zf,Zf,Zf,Zt,Zf,Zf,Zf,Zf,Zf,Zf,Zf,Zf,Zf,Zf,Zf,Zf,Zf,Zf,Zf,Zf,Zf,Zf,Zf,Zf] rfl rfl (Xj HT_.out (by kernel_rfl)) (fun _ _ _ h => h) (Or.inl ⟨by rfl, ?_⟩) ?_ ?_
        rotate_left
        ·intro w'
         go_simp
         with_reducible rfl
        rotate_left
        ·simp only [Act.put, Xa, Xb, Xc, Xf, Xg]
         rfl
        refine take_ (i := 8) (N := some 40) (v := ?_) (a' := ?_) #[Zt,Zt,Zt,Zt,Zt,Zt,Zt,Zt,Zt,Zf,Zf,Zt,Zf,Zf,Zf,Zf,Zf,Zf,Zf,Zf,Zf,Zf,Zf,Zf,Zf,Zf,Zf,Zf,Zf,Zf,Zf,Zf] rfl rfl (Xq HT_.out HW_.out (by kernel_rfl)) (fun _ _ _ h => h) (Or.inl ⟨by rfl, ?_⟩) hHeld ?_ ?_
        rotate_left
        ·rintro w' ⟨s0, s1, s2, s3, s4, s5, s6, s7⟩
         go_simp
         with_reducible rfl
        rotate_left
        ·simp only [Act.put, Xa, Xb, Xc, Xf, Xg]
         rfl
        refine take_ (i := 9) (N := some 41) (v := ?_) (a' := ?_) #[Zt,Zt,Zt,Zt,Zt,Zt,Zt,Zt,Zt,Zt,Zf,Zt,Zf,Zf,Zf,Zf,Zf,Zf,Zf,Zf,Zf,Zf,Zf,Zf,Zf,Zf,Zf,Zf,Zf,Zf,Zf,Zf] rfl rfl (Xq HT_.out HW_.out (by kernel_rfl)) (fun _ _ _ h => h) (Or.inl ⟨by rfl, ?_⟩) hHeld ?_ ?_
        rotate_left
        ·rintro w' ⟨s0, s1, s2, s3, s4, s5, s6, s7⟩
         go_simp
         with_reducible rfl
        rotate_left
        ·simp only [Act.put, Xa, Xb, Xc, Xf, Xg]
         rfl
        refine one_ (i := 10) (N := some 42) #[Zt,Zt,Zt,Zt,Zt,Zt,Zt,Zt,Zt,Zt,Zt,Zt,Zf,Zf,Zf,Zf,Zf,Zf,Zf,Zf,Zf,Zf,Zf,Zf,Zf,Zf,Zf,Zf,Zf,Zf,Zf,Zf] rfl rfl (one_of HT_.out (by kernel_rfl)) (by decide) (fun K hK => ?_)
        refine goes_ Try.func53 (by kernel_rfl) rfl #[.agg #[.int .i64 a0_0, .int .i64 a0_1, .int .i64 a0_2], .agg #[.int .i64 t186, .int .i64 t187, .int .i64 t188]] (by rfl) rfl rfl (by (try simp only [List.map_toArray, List.map_cons, List.map_nil]); first | done | rfl | (simp only [List.length_drop, List.length_take]; rfl)) ?_
        with_reducible refine (place_Then.calls kj7 a0_0 a0_1 a0_2 t186 t187 t188 t204 t205 t206 _ A43.out).mono ?_
        rintro e w61 ⟨rfl, hb⟩
        refine ⟨_, rfl, ?_⟩
        have n0_ := Za (Xe (g := gb179) (o := .cells #[.int .i64 a0_0, .int .i64 a0_1, .int .i64 a0_2] 23 (0, 0)) (bb_6 BK179.out) hb)
        have n1_ := Za (Xe (g := gb180) (o := .cells #[.int .i64 a1_0, .int .i64 a1_1, .int .i64 a1_2] 23 (0, 0)) (bb_6 BK180.out) hb)
        have n2_ := Za (Xe (g := gb181) (o := .cells #[.int .i64 a2_0, .int .i64 a2_1] 25 (0, 0)) (bb_6 BK181.out) hb)
        have n3_ := Za (Xe (g := gb189) (o := .cells #[.int .i64 t183, .int .i64 t184, .int .i64 t185] 23 (0, 0)) (bb_6 BK189.out) hb)
        have n4_ := Za (Xe (g := gb190) (o := .cells #[.int .i64 t186, .int .i64 t187, .int .i64 t188] 23 (0, 0)) (bb_6 BK190.out) hb)
        have n5_ := Za (Xo (hb_6 HB.out) hb)
        clear BK179
        clear BK180
        clear BK181
        clear BK189
        clear BK190
        clear HB
        have BK179 := n0_
        have BK180 := n1_
        have BK181 := n2_
        have BK189 := n3_
        have BK190 := n4_
        have HB := n5_
        clear n0_ n1_ n2_ n3_ n4_ n5_
        (try clear hb)
        (try clear hb2)
        (try clear hk)
        (try clear hi)
        refine hK.out _ _ ⟨(Xd BK190.out 0).trans rfl, (Xd BK190.out 1).trans rfl, (Xd BK190.out 2).trans rfl, (Xd BK179.out 0).trans rfl, (Xd BK179.out 1).trans rfl, (Xd BK179.out 2).trans rfl, (Xd BK181.out 0).trans rfl, (Xd BK181.out 1).trans rfl⟩ (fun hHeld => ?_)
        clear hK K
        refine Xr (a' := ?_) ?_ ?_
        rotate_left
        ·show Act.put _ (some 42) _ = _
         simp only [Act.put, Xa, Xb, Xc, Xf, Xg]
         rfl
        refine Xm (i := 12) (N := some 44) (v := ?_) (a' := ?_) #[Zt,Zt,Zt,Zt,Zt,Zt,Zt,Zt,Zt,Zt,Zt,Zt,Zt,Zf,Zf,Zf,Zf,Zf,Zf,Zf,Zf,Zf,Zf,Zf,Zf,Zf,Zf,Zf,Zf,Zf,Zf,Zf] rfl rfl (Xj HT_.out (by kernel_rfl)) (fun _ _ _ h => h) (Or.inl ⟨by rfl, ?_⟩) ?_ ?_
        rotate_left
        ·intro w'
         go_simp
         with_reducible rfl
        rotate_left
        ·simp only [Act.put, Xa, Xb, Xc, Xf, Xg]
         rfl
        refine Xm (i := 13) (N := some 45) (v := ?_) (a' := ?_) #[Zt,Zt,Zt,Zt,Zt,Zt,Zt,Zt,Zt,Zt,Zt,Zt,Zt,Zt,Zf,Zf,Zf,Zf,Zf,Zf,Zf,Zf,Zf,Zf,Zf,Zf,Zf,Zf,Zf,Zf,Zf,Zf] rfl rfl (Xj HT_.out (by kernel_rfl)) (fun _ _ _ h => h) (Or.inl ⟨by rfl, ?_⟩) ?_ ?_
        rotate_left
        ·intro w'
         go_simp
         with_reducible rfl
        rotate_left
        ·simp only [Act.put, Xa, Xb, Xc, Xf, Xg]
         rfl
        refine Xm (i := 14) (N := some 46) (v := ?_) (a' := ?_) #[Zt,Zt,Zt,Zt,Zt,Zt,Zt,Zt,Zt,Zt,Zt,Zt,Zt,Zt,Zt,Zf,Zf,Zf,Zf,Zf,Zf,Zf,Zf,Zf,Zf,Zf,Zf,Zf,Zf,Zf,Zf,Zf] rfl rfl (Xj HT_.out (by kernel_rfl)) (fun _ _ _ h => h) (Or.inl ⟨by rfl, ?_⟩) ?_ ?_
        rotate_left
        ·intro w'
         go_simp
         with_reducible rfl
        rotate_left
        ·simp only [Act.put, Xa, Xb, Xc, Xf, Xg]
         rfl
        refine Xm (i := 18) (N := some 50) (v := ?_) (a' := ?_) #[Zt,Zt,Zt,Zt,Zt,Zt,Zt,Zt,Zt,Zt,Zt,Zt,Zt,Zt,Zt,Zf,Zf,Zf,Zt,Zf,Zf,Zf,Zf,Zf,Zf,Zf,Zf,Zf,Zf,Zf,Zf,Zf] rfl rfl (Xj HT_.out (by kernel_rfl)) (fun _ _ _ h => h) (Or.inl ⟨by rfl, ?_⟩) ?_ ?_
        rotate_left
        ·intro w'
         go_simp
         with_reducible rfl
        rotate_left
        ·simp only [Act.put, Xa, Xb, Xc, Xf, Xg]
         rfl
        refine take_ (i := 15) (N := some 47) (v := ?_) (a' := ?_) #[Zt,Zt,Zt,Zt,Zt,Zt,Zt,Zt,Zt,Zt,Zt,Zt,Zt,Zt,Zt,Zt,Zf,Zf,Zt,Zf,Zf,Zf,Zf,Zf,Zf,Zf,Zf,Zf,Zf,Zf,Zf,Zf] rfl rfl (Xq HT_.out HW_.out (by kernel_rfl)) (fun _ _ _ h => h) (Or.inl ⟨by rfl, ?_⟩) hHeld ?_ ?_
        rotate_left
        ·rintro w' ⟨s0, s1, s2, s3, s4, s5, s6, s7⟩
         go_simp
         with_reducible rfl
        rotate_left
        ·simp only [Act.put, Xa, Xb, Xc, Xf, Xg]
         rfl
        refine take_ (i := 16) (N := some 48) (v := ?_) (a' := ?_) #[Zt,Zt,Zt,Zt,Zt,Zt,Zt,Zt,Zt,Zt,Zt,Zt,Zt,Zt,Zt,Zt,Zt,Zf,Zt,Zf,Zf,Zf,Zf,Zf,Zf,Zf,Zf,Zf,Zf,Zf,Zf,Zf] rfl rfl (Xq HT_.out HW_.out (by kernel_rfl)) (fun _ _ _ h => h) (Or.inl ⟨by rfl, ?_⟩) hHeld ?_ ?_
        rotate_left
        ·rintro w' ⟨s0, s1, s2, s3, s4, s5, s6, s7⟩
         go_simp
         with_reducible rfl
        rotate_left
        ·simp only [Act.put, Xa, Xb, Xc, Xf, Xg]
         rfl
        refine one_ (i := 17) (N := some 49) #[Zt,Zt,Zt,Zt,Zt,Zt,Zt,Zt,Zt,Zt,Zt,Zt,Zt,Zt,Zt,Zt,Zt,Zt,Zt,Zf,Zf,Zf,Zf,Zf,Zf,Zf,Zf,Zf,Zf,Zf,Zf,Zf] rfl rfl (one_of HT_.out (by kernel_rfl)) (by decide) (fun K hK => ?_)
        refine goes_ Try.func53 (by kernel_rfl) rfl #[.agg #[.int .i64 t186, .int .i64 t187, .int .i64 t188], .agg #[.int .i64 a0_0, .int .i64 a0_1, .int .i64 a0_2]] (by rfl) rfl rfl (by (try simp only [List.map_toArray, List.map_cons, List.map_nil]); first | done | rfl | (simp only [List.length_drop, List.length_take]; rfl)) ?_
        with_reducible refine (place_Then.calls kj7 t186 t187 t188 a0_0 a0_1 a0_2 t207 t208 t209 _ A45.out).mono ?_
        rintro e w62 ⟨rfl, hb⟩
        refine ⟨_, rfl, ?_⟩
        have n0_ := Za (Xe (g := gb179) (o := .cells #[.int .i64 a0_0, .int .i64 a0_1, .int .i64 a0_2] 23 (0, 0)) (bb_6 BK179.out) hb)
        have n1_ := Za (Xe (g := gb180) (o := .cells #[.int .i64 a1_0, .int .i64 a1_1, .int .i64 a1_2] 23 (0, 0)) (bb_6 BK180.out) hb)
        have n2_ := Za (Xe (g := gb181) (o := .cells #[.int .i64 a2_0, .int .i64 a2_1] 25 (0, 0)) (bb_6 BK181.out) hb)
        have n3_ := Za (Xe (g := gb189) (o := .cells #[.int .i64 t183, .int .i64 t184, .int .i64 t185] 23 (0, 0)) (bb_6 BK189.out) hb)
        have n4_ := Za (Xe (g := gb190) (o := .cells #[.int .i64 t186, .int .i64 t187, .int .i64 t188] 23 (0, 0)) (bb_6 BK190.out) hb)
        have n5_ := Za (Xo (hb_6 HB.out) hb)
        clear BK179
        clear BK180
        clear BK181
        clear BK189
        clear BK190
        clear HB
        have BK179 := n0_
        have BK180 := n1_
        have BK181 := n2_
        have BK189 := n3_
        have BK190 := n4_
        have HB := n5_
        clear n0_ n1_ n2_ n3_ n4_ n5_
        (try clear hb)
        (try clear hb2)
        (try clear hk)
        (try clear hi)
        refine hK.out _ _ ⟨(Xd BK190.out 0).trans rfl, (Xd BK190.out 1).trans rfl, (Xd BK190.out 2).trans rfl, (Xd BK179.out 0).trans rfl, (Xd BK179.out 1).trans rfl, (Xd BK179.out 2).trans rfl, (Xd BK181.out 0).trans rfl, (Xd BK181.out 1).trans rfl⟩ (fun hHeld => ?_)
        clear hK K
        refine Xr (a' := ?_) ?_ ?_
        rotate_left
        ·show Act.put _ (some 49) _ = _
         simp only [Act.put, Xa, Xb, Xc, Xf, Xg]
         rfl
        refine Xm (i := 19) (N := some 51) (v := ?_) (a' := ?_) #[Zt,Zt,Zt,Zt,Zt,Zt,Zt,Zt,Zt,Zt,Zt,Zt,Zt,Zt,Zt,Zt,Zt,Zt,Zt,Zt,Zf,Zf,Zf,Zf,Zf,Zf,Zf,Zf,Zf,Zf,Zf,Zf] rfl rfl (Xj HT_.out (by kernel_rfl)) (fun _ _ _ h => h) (Or.inl ⟨by rfl, ?_⟩) ?_ ?_
        rotate_left
        ·intro w'
         go_simp
         with_reducible rfl
        rotate_left
        ·simp only [Act.put, Xa, Xb, Xc, Xf, Xg]
         rfl
        refine Xm (i := 20) (N := some 52) (v := ?_) (a' := ?_) #[Zt,Zt,Zt,Zt,Zt,Zt,Zt,Zt,Zt,Zt,Zt,Zt,Zt,Zt,Zt,Zt,Zt,Zt,Zt,Zt,Zt,Zf,Zf,Zf,Zf,Zf,Zf,Zf,Zf,Zf,Zf,Zf] rfl rfl (Xj HT_.out (by kernel_rfl)) (fun _ _ _ h => h) (Or.inl ⟨by rfl, ?_⟩) ?_ ?_
        rotate_left
        ·intro w'
         go_simp
         with_reducible rfl
        rotate_left
        ·simp only [Act.put, Xa, Xb, Xc, Xf, Xg]
         rfl
        refine Xm (i := 21) (N := some 53) (v := ?_) (a' := ?_) #[Zt,Zt,Zt,Zt,Zt,Zt,Zt,Zt,Zt,Zt,Zt,Zt,Zt,Zt,Zt,Zt,Zt,Zt,Zt,Zt,Zt,Zt,Zf,Zf,Zf,Zf,Zf,Zf,Zf,Zf,Zf,Zf] rfl rfl (Xj HT_.out (by kernel_rfl)) (fun _ _ _ h => h) (Or.inl ⟨by rfl, ?_⟩) ?_ ?_
        rotate_left
        ·intro w'
         go_simp
         with_reducible rfl
        rotate_left
        ·simp only [Act.put, Xa, Xb, Xc, Xf, Xg]
         rfl
        refine Xm (i := 22) (N := some 54) (v := undef) (a' := ?_) #[Zt,Zt,Zt,Zt,Zt,Zt,Zt,Zt,Zt,Zt,Zt,Zt,Zt,Zt,Zt,Zt,Zt,Zt,Zt,Zt,Zt,Zt,Zt,Zf,Zf,Zf,Zf,Zf,Zf,Zf,Zf,Zf] rfl rfl (Xj HT_.out (by kernel_rfl)) (fun _ _ _ h => h) (Or.inr ⟨by rfl, rfl⟩) ?_ ?_
        rotate_left
        ·simp only [Act.put, Xa, Xb, Xc, Xf, Xg]
         rfl
        refine Xm (i := 23) (N := some 55) (v := undef) (a' := ?_) #[Zt,Zt,Zt,Zt,Zt,Zt,Zt,Zt,Zt,Zt,Zt,Zt,Zt,Zt,Zt,Zt,Zt,Zt,Zt,Zt,Zt,Zt,Zt,Zt,Zf,Zf,Zf,Zf,Zf,Zf,Zf,Zf] rfl rfl (Xj HT_.out (by kernel_rfl)) (fun _ _ _ h => h) (Or.inr ⟨by rfl, rfl⟩) ?_ ?_
        rotate_left
        ·simp only [Act.put, Xa, Xb, Xc, Xf, Xg]
         rfl
        refine Xm (i := 24) (N := some 56) (v := undef) (a' := ?_) #[Zt,Zt,Zt,Zt,Zt,Zt,Zt,Zt,Zt,Zt,Zt,Zt,Zt,Zt,Zt,Zt,Zt,Zt,Zt,Zt,Zt,Zt,Zt,Zt,Zt,Zf,Zf,Zf,Zf,Zf,Zf,Zf] rfl rfl (Xj HT_.out (by kernel_rfl)) (fun _ _ _ h => h) (Or.inr ⟨by rfl, rfl⟩) ?_ ?_
        rotate_left
        ·simp only [Act.put, Xa, Xb, Xc, Xf, Xg]
         rfl
        refine Xm (i := 25) (N := some 57) (v := ?_) (a' := ?_) #[Zt,Zt,Zt,Zt,Zt,Zt,Zt,Zt,Zt,Zt,Zt,Zt,Zt,Zt,Zt,Zt,Zt,Zt,Zt,Zt,Zt,Zt,Zt,Zt,Zt,Zt,Zf,Zf,Zf,Zf,Zf,Zf] rfl rfl (Xj HT_.out (by kernel_rfl)) (fun _ _ _ h => h) (Or.inl ⟨by rfl, ?_⟩) ?_ ?_
        rotate_left
        ·intro w'
         go_simp
         with_reducible rfl
        rotate_left
        ·simp only [Act.put, Xa, Xb, Xc, Xf, Xg]
         rfl
        refine Xm (i := 26) (N := some 58) (v := ?_) (a' := ?_) #[Zt,Zt,Zt,Zt,Zt,Zt,Zt,Zt,Zt,Zt,Zt,Zt,Zt,Zt,Zt,Zt,Zt,Zt,Zt,Zt,Zt,Zt,Zt,Zt,Zt,Zt,Zt,Zf,Zf,Zf,Zf,Zf] rfl rfl (Xj HT_.out (by kernel_rfl)) (fun _ _ _ h => h) (Or.inl ⟨by rfl, ?_⟩) ?_ ?_
        rotate_left
        ·intro w'
         go_simp
         with_reducible rfl
        rotate_left
        ·simp only [Act.put, Xa, Xb, Xc, Xf, Xg]
         rfl
        refine Xm (i := 27) (N := some 59) (v := undef) (a' := ?_) #[Zt,Zt,Zt,Zt,Zt,Zt,Zt,Zt,Zt,Zt,Zt,Zt,Zt,Zt,Zt,Zt,Zt,Zt,Zt,Zt,Zt,Zt,Zt,Zt,Zt,Zt,Zt,Zt,Zf,Zf,Zf,Zf] rfl rfl (Xj HT_.out (by kernel_rfl)) (fun _ _ _ h => h) (Or.inr ⟨by rfl, rfl⟩) ?_ ?_
        rotate_left
        ·simp only [Act.put, Xa, Xb, Xc, Xf, Xg]
         rfl
        refine Xm (i := 28) (N := some 60) (v := undef) (a' := ?_) #[Zt,Zt,Zt,Zt,Zt,Zt,Zt,Zt,Zt,Zt,Zt,Zt,Zt,Zt,Zt,Zt,Zt,Zt,Zt,Zt,Zt,Zt,Zt,Zt,Zt,Zt,Zt,Zt,Zt,Zf,Zf,Zf] rfl rfl (Xj HT_.out (by kernel_rfl)) (fun _ _ _ h => h) (Or.inr ⟨by rfl, rfl⟩) ?_ ?_
        rotate_left
        ·simp only [Act.put, Xa, Xb, Xc, Xf, Xg]
         rfl
        refine Xm (i := 29) (N := some 61) (v := undef) (a' := ?_) #[Zt,Zt,Zt,Zt,Zt,Zt,Zt,Zt,Zt,Zt,Zt,Zt,Zt,Zt,Zt,Zt,Zt,Zt,Zt,Zt,Zt,Zt,Zt,Zt,Zt,Zt,Zt,Zt,Zt,Zt,Zf,Zf] rfl rfl (Xj HT_.out (by kernel_rfl)) (fun _ _ _ h => h) (Or.inr ⟨by rfl, rfl⟩) ?_ ?_
        rotate_left
        ·simp only [Act.put, Xa, Xb, Xc, Xf, Xg]
         rfl
        refine Xm (i := 30) (N := some 62) (v := ?_) (a' := ?_) #[Zt,Zt,Zt,Zt,Zt,Zt,Zt,Zt,Zt,Zt,Zt,Zt,Zt,Zt,Zt,Zt,Zt,Zt,Zt,Zt,Zt,Zt,Zt,Zt,Zt,Zt,Zt,Zt,Zt,Zt,Zt,Zf] rfl rfl (Xj HT_.out (by kernel_rfl)) (fun _ _ _ h => h) (Or.inl ⟨by rfl, ?_⟩) ?_ ?_
        rotate_left
        ·intro w'
         go_simp
         with_reducible rfl
        rotate_left
        ·simp only [Act.put, Xa, Xb, Xc, Xf, Xg]
         rfl
        refine Xm (i := 31) (N := some 6) (v := ?_) (a' := ?_) #[Zt,Zt,Zt,Zt,Zt,Zt,Zt,Zt,Zt,Zt,Zt,Zt,Zt,Zt,Zt,Zt,Zt,Zt,Zt,Zt,Zt,Zt,Zt,Zt,Zt,Zt,Zt,Zt,Zt,Zt,Zt,Zt] rfl rfl (Xj HT_.out (by kernel_rfl)) (fun _ _ _ h => h) (Or.inl ⟨by rfl, ?_⟩) ?_ ?_
        rotate_left
        ·intro w'
         go_simp
         with_reducible rfl
        rotate_left
        ·simp only [Act.put, Xa, Xb, Xc, Xf, Xg]
         rfl
        refine done_ (done_of HT_.out (by kernel_rfl)) ?_
        try go_wp2
        go_ret
        exact ⟨by first | rfl | (simp [errW_none, errW_some] <;> rfl) | (simp [*, errW_none, errW_some] <;> rfl), by repeat (first | (with_reducible first | exact HB.out | apply below_alloc | apply pw_below_drewN | apply below_drew1 | refine Xp ?_ GE179.out | refine Xp ?_ GE180.out | refine Xp ?_ GE181.out | refine Xp ?_ GE189.out | refine Xp ?_ GE190.out) | exact HB.out)⟩
      ·rw [if_neg c44] at H
       have c44b0 : (t204 == 0 && (t205 == 0 && (t206 == 0))) = Zf := by simpa using c44
       (try (have c44b1 : decide (t204 = 0 && (t205 == 0 && (t206 == 0))) = Zf := by simpa using c44))
       (try (have c44b2 : (t204 == 0 && (t205 == 0 && (t206 == 0))) = Zf := by simpa using c44))
       (try (have c44b3 : ¬ (t204 = 0 && (t205 == 0 && (t206 == 0))) := by simpa using c44))
       clear c44
       obtain rfl := Option.some.inj H
       try go_wp2
       have n0_ := Za (Xi BK179.out)
       have n1_ := Za (Xi BK180.out)
       have n2_ := Za (Xi BK181.out)
       have n3_ := Za (Xi BK189.out)
       have n4_ := Za (Xi BK190.out)
       have n5_ := Za (below_drew1 HB.out)
       clear BK179
       clear BK180
       clear BK181
       clear BK189
       clear BK190
       clear HB
       have BK179 := n0_
       have BK180 := n1_
       have BK181 := n2_
       have BK189 := n3_
       have BK190 := n4_
       have HB := n5_
       clear n0_ n1_ n2_ n3_ n4_ n5_
       refine start_ (n := 32) (S := fun w' => w'.cell? ⟨gb190, 0, none⟩ = some (.int .i64 t186) ∧ w'.cell? ⟨gb190, 1, none⟩ = some (.int .i64 t187) ∧ w'.cell? ⟨gb190, 2, none⟩ = some (.int .i64 t188) ∧ w'.cell? ⟨gb179, 0, none⟩ = some (.int .i64 a0_0) ∧ w'.cell? ⟨gb179, 1, none⟩ = some (.int .i64 a0_1) ∧ w'.cell? ⟨gb179, 2, none⟩ = some (.int .i64 a0_2) ∧ w'.cell? ⟨gb181, 0, none⟩ = some (.int .i64 a2_0) ∧ w'.cell? ⟨gb181, 1, none⟩ = some (.int .i64 a2_1)) (ds := []) #[Zf,Zf,Zf,Zf,Zf,Zf,Zf,Zf,Zf,Zf,Zf,Zf,Zf,Zf,Zf,Zf,Zf,Zf,Zf,Zf,Zf,Zf,Zf,Zf,Zf,Zf,Zf,Zf,Zf,Zf,Zf,Zf] (by kernel_rfl) rfl rfl ⟨(Xd BK190.out 0).trans rfl, (Xd BK190.out 1).trans rfl, (Xd BK190.out 2).trans rfl, (Xd BK179.out 0).trans rfl, (Xd BK179.out 1).trans rfl, (Xd BK179.out 2).trans rfl, (Xd BK181.out 0).trans rfl, (Xd BK181.out 1).trans rfl⟩ (fun hHeld => ?_); refine with_tabW gatherumlaw06_PlaceGroup.tab6 gatherumlaw06_PlaceGroup.bits6 (fun HT_ HW_ => ?_)
       generalize wc.drew = w63 at BK179 BK180 BK181 BK189 BK190 HB hHeld ⊢
       refine take_ (i := 0) (N := some 32) (v := ?_) (a' := ?_) #[Zt,Zf,Zf,Zf,Zf,Zf,Zf,Zf,Zf,Zf,Zf,Zf,Zf,Zf,Zf,Zf,Zf,Zf,Zf,Zf,Zf,Zf,Zf,Zf,Zf,Zf,Zf,Zf,Zf,Zf,Zf,Zf] rfl rfl (Xq HT_.out HW_.out (by kernel_rfl)) (fun _ _ _ h => h) (Or.inl ⟨by rfl, ?_⟩) hHeld ?_ ?_
       rotate_left
       ·rintro w' ⟨s0, s1, s2, s3, s4, s5, s6, s7⟩
        go_simp
        with_reducible rfl
       rotate_left
       ·simp only [Act.put, Xa, Xb, Xc, Xf, Xg]
        rfl
       refine take_ (i := 1) (N := some 33) (v := ?_) (a' := ?_) #[Zt,Zt,Zf,Zf,Zf,Zf,Zf,Zf,Zf,Zf,Zf,Zf,Zf,Zf,Zf,Zf,Zf,Zf,Zf,Zf,Zf,Zf,Zf,Zf,Zf,Zf,Zf,Zf,Zf,Zf,Zf,Zf] rfl rfl (Xq HT_.out HW_.out (by kernel_rfl)) (fun _ _ _ h => h) (Or.inl ⟨by rfl, ?_⟩) hHeld ?_ ?_
       rotate_left
       ·rintro w' ⟨s0, s1, s2, s3, s4, s5, s6, s7⟩
        go_simp
        with_reducible rfl
       rotate_left
       ·simp only [Act.put, Xa, Xb, Xc, Xf, Xg]
        rfl
       refine take_ (i := 2) (N := some 34) (v := ?_) (a' := ?_) #[Zt,Zt,Zt,Zf,Zf,Zf,Zf,Zf,Zf,Zf,Zf,Zf,Zf,Zf,Zf,Zf,Zf,Zf,Zf,Zf,Zf,Zf,Zf,Zf,Zf,Zf,Zf,Zf,Zf,Zf,Zf,Zf] rfl rfl (Xq HT_.out HW_.out (by kernel_rfl)) (fun _ _ _ h => h) (Or.inl ⟨by rfl, ?_⟩) hHeld ?_ ?_
       rotate_left
       ·rintro w' ⟨s0, s1, s2, s3, s4, s5, s6, s7⟩
        go_simp
        with_reducible rfl
       rotate_left
       ·simp only [Act.put, Xa, Xb, Xc, Xf, Xg]
        rfl
       refine take_ (i := 5) (N := some 37) (v := ?_) (a' := ?_) #[Zt,Zt,Zt,Zf,Zf,Zt,Zf,Zf,Zf,Zf,Zf,Zf,Zf,Zf,Zf,Zf,Zf,Zf,Zf,Zf,Zf,Zf,Zf,Zf,Zf,Zf,Zf,Zf,Zf,Zf,Zf,Zf] rfl rfl (Xq HT_.out HW_.out (by kernel_rfl)) (fun _ _ _ h => h) (Or.inl ⟨by rfl, ?_⟩) hHeld ?_ ?_
       rotate_left
       ·rintro w' ⟨s0, s1, s2, s3, s4, s5, s6, s7⟩
        go_simp
        with_reducible rfl
       rotate_left
       ·simp only [Act.put, Xa, Xb, Xc, Xf, Xg]
        rfl
       refine one_ (i := 3) (N := some 35) #[Zt,Zt,Zt,Zt,Zf,Zt,Zf,Zf,Zf,Zf,Zf,Zf,Zf,Zf,Zf,Zf,Zf,Zf,Zf,Zf,Zf,Zf,Zf,Zf,Zf,Zf,Zf,Zf,Zf,Zf,Zf,Zf] rfl rfl (one_of HT_.out (by kernel_rfl)) (by decide) (fun K hK => ?_)
       refine goes_ Try.func15 (by kernel_rfl) rfl #[.agg #[.int .i64 a0_0, .int .i64 a0_1, .int .i64 a0_2], .agg #[.int .i64 a2_0, .int .i64 a2_1]] (by rfl) rfl rfl (by (try simp only [List.map_toArray, List.map_cons, List.map_nil]); first | done | rfl | (simp only [List.length_drop, List.length_take]; rfl)) ?_
       with_reducible refine (place_Do.calls kj7 a0_0 a0_1 a0_2 a2_0 a2_1 t200 t201 _ A40.out).mono ?_
       rintro e w64 ⟨rfl, hb⟩
       refine ⟨_, rfl, ?_⟩
       have n0_ := Za (Xe (g := gb179) (o := .cells #[.int .i64 a0_0, .int .i64 a0_1, .int .i64 a0_2] 23 (0, 0)) (bb_6 BK179.out) hb)
       have n1_ := Za (Xe (g := gb180) (o := .cells #[.int .i64 a1_0, .int .i64 a1_1, .int .i64 a1_2] 23 (0, 0)) (bb_6 BK180.out) hb)
       have n2_ := Za (Xe (g := gb181) (o := .cells #[.int .i64 a2_0, .int .i64 a2_1] 25 (0, 0)) (bb_6 BK181.out) hb)
       have n3_ := Za (Xe (g := gb189) (o := .cells #[.int .i64 t183, .int .i64 t184, .int .i64 t185] 23 (0, 0)) (bb_6 BK189.out) hb)
       have n4_ := Za (Xe (g := gb190) (o := .cells #[.int .i64 t186, .int .i64 t187, .int .i64 t188] 23 (0, 0)) (bb_6 BK190.out) hb)
       have n5_ := Za (Xo (hb_6 HB.out) hb)
       clear BK179
       clear BK180
       clear BK181
       clear BK189
       clear BK190
       clear HB
       have BK179 := n0_
       have BK180 := n1_
       have BK181 := n2_
       have BK189 := n3_
       have BK190 := n4_
       have HB := n5_
       clear n0_ n1_ n2_ n3_ n4_ n5_
       (try clear hb)
       (try clear hb2)
       (try clear hk)
       (try clear hi)
       refine hK.out _ _ ⟨(Xd BK190.out 0).trans rfl, (Xd BK190.out 1).trans rfl, (Xd BK190.out 2).trans rfl, (Xd BK179.out 0).trans rfl, (Xd BK179.out 1).trans rfl, (Xd BK179.out 2).trans rfl, (Xd BK181.out 0).trans rfl, (Xd BK181.out 1).trans rfl⟩ (fun hHeld => ?_)
       clear hK K
       refine Xr (a' := ?_) ?_ ?_
       rotate_left
       ·show Act.put _ (some 35) _ = _
        simp only [Act.put, Xa, Xb, Xc, Xf, Xg]
        rfl
       refine one_ (i := 4) (N := some 36) #[Zt,Zt,Zt,Zt,Zt,Zt,Zf,Zf,Zf,Zf,Zf,Zf,Zf,Zf,Zf,Zf,Zf,Zf,Zf,Zf,Zf,Zf,Zf,Zf,Zf,Zf,Zf,Zf,Zf,Zf,Zf,Zf] rfl rfl (one_of HT_.out (by kernel_rfl)) (by decide) (fun K hK => ?_)
       refine goes_ Try.func15 (by kernel_rfl) rfl #[.agg #[.int .i64 t186, .int .i64 t187, .int .i64 t188], .agg #[.int .i64 t200, .int .i64 t201]] (by rfl) rfl rfl (by (try simp only [List.map_toArray, List.map_cons, List.map_nil]); first | done | rfl | (simp only [List.length_drop, List.length_take]; rfl)) ?_
       with_reducible refine (place_Do.calls kj7 t186 t187 t188 t200 t201 t202 t203 _ A41.out).mono ?_
       rintro e w65 ⟨rfl, hb⟩
       refine ⟨_, rfl, ?_⟩
       have n0_ := Za (Xe (g := gb179) (o := .cells #[.int .i64 a0_0, .int .i64 a0_1, .int .i64 a0_2] 23 (0, 0)) (bb_6 BK179.out) hb)
       have n1_ := Za (Xe (g := gb180) (o := .cells #[.int .i64 a1_0, .int .i64 a1_1, .int .i64 a1_2] 23 (0, 0)) (bb_6 BK180.out) hb)
       have n2_ := Za (Xe (g := gb181) (o := .cells #[.int .i64 a2_0, .int .i64 a2_1] 25 (0, 0)) (bb_6 BK181.out) hb)
       have n3_ := Za (Xe (g := gb189) (o := .cells #[.int .i64 t183, .int .i64 t184, .int .i64 t185] 23 (0, 0)) (bb_6 BK189.out) hb)
       have n4_ := Za (Xe (g := gb190) (o := .cells #[.int .i64 t186, .int .i64 t187, .int .i64 t188] 23 (0, 0)) (bb_6 BK190.out) hb)
       have n5_ := Za (Xo (hb_6 HB.out) hb)
       clear BK179
       clear BK180
       clear BK181
       clear BK189
       clear BK190
       clear HB
       have BK179 := n0_
       have BK180 := n1_
       have BK181 := n2_
       have BK189 := n3_
       have BK190 := n4_
       have HB := n5_
       clear n0_ n1_ n2_ n3_ n4_ n5_
       (try clear hb)
       (try clear hb2)
       (try clear hk)
       (try clear hi)
       refine hK.out _ _ ⟨(Xd BK190.out 0).trans rfl, (Xd BK190.out 1).trans rfl, (Xd BK190.out 2).trans rfl, (Xd BK179.out 0).trans rfl, (Xd BK179.out 1).trans rfl, (Xd BK179.out 2).trans rfl, (Xd BK181.out 0).trans rfl, (Xd BK181.out 1).trans rfl⟩ (fun hHeld => ?_)
       clear hK K
       refine Xr (a' := ?_) ?_ ?_
       rotate_left
       ·show Act.put _ (some 36) _ = _
        simp only [Act.put, Xa, Xb, Xc, Xf, Xg]
        rfl
       refine Xm (i := 6) (N := some 38) (v := ?_) (a' := ?_) #[Zt,Zt,Zt,Zt,Zt,Zt,Zt,Zf,Zf,Zf,Zf,Zf,Zf,Zf,Zf,Zf,Zf,Zf,Zf,Zf,Zf,Zf,Zf,Zf,Zf,Zf,Zf,Zf,Zf,Zf,Zf,Zf] rfl rfl (Xj HT_.out (by kernel_rfl)) (fun _ _ _ h => h) (Or.inl ⟨by rfl, ?_⟩) ?_ ?_
       rotate_left
       ·intro w'
        go_simp
        with_reducible rfl
       rotate_left
       ·simp only [Act.put, Xa, Xb, Xc, Xf, Xg]
        rfl
       refine Xm (i := 7) (N := some 39) (v := ?_) (a' := ?_) #[Zt,Zt,Zt,Zt,Zt,Zt,Zt,Zt,Zf,Zf,Zf,Zf,Zf,Zf,Zf,Zf,Zf,Zf,Zf,Zf,Zf,Zf,Zf,Zf,Zf,Zf,Zf,Zf,Zf,Zf,Zf,Zf] rfl rfl (Xj HT_.out (by kernel_rfl)) (fun _ _ _ h => h) (Or.inl ⟨by rfl, ?_⟩) ?_ ?_
       rotate_left
       ·intro w'
        go_simp
        with_reducible rfl
       rotate_left
       ·simp only [Act.put, Xa, Xb, Xc, Xf, Xg]
        rfl
       refine Xm (i := 11) (N := some 43) (v := ?_) (a' := ?_) #[Zt,Zt,Zt,Zt,Zt,Zt,Zt,Zt,Zf,Zf,Zf,Zt,Zf,Zf,Zf,Zf,Zf,Zf,Zf,Zf,Zf,Zf,Zf,Zf,Zf,Zf,Zf,Zf,Zf,Zf,Zf,Zf] rfl rfl (Xj HT_.out (by kernel_rfl)) (fun _ _ _ h => h) (Or.inl ⟨by rfl, ?_⟩) ?_ ?_
       rotate_left
       ·intro w'
        go_simp
        with_reducible rfl
       rotate_left
       ·simp only [Act.put, Xa, Xb, Xc, Xf, Xg]
        rfl
       refine take_ (i := 8) (N := some 40) (v := ?_) (a' := ?_) #[Zt,Zt,Zt,Zt,Zt,Zt,Zt,Zt,Zt,Zf,Zf,Zt,Zf,Zf,Zf,Zf,Zf,Zf,Zf,Zf,Zf,Zf,Zf,Zf,Zf,Zf,Zf,Zf,Zf,Zf,Zf,Zf] rfl rfl (Xq HT_.out HW_.out (by kernel_rfl)) (fun _ _ _ h => h) (Or.inl ⟨by rfl, ?_⟩) hHeld ?_ ?_
       rotate_left
       ·rintro w' ⟨s0, s1, s2, s3, s4, s5, s6, s7⟩
        go_simp
        with_reducible rfl
       rotate_left
       ·simp only [Act.put, Xa, Xb, Xc, Xf, Xg]
        rfl
       refine take_ (i := 9) (N := some 41) (v := ?_) (a' := ?_) #[Zt,Zt,Zt,Zt,Zt,Zt,Zt,Zt,Zt,Zt,Zf,Zt,Zf,Zf,Zf,Zf,Zf,Zf,Zf,Zf,Zf,Zf,Zf,Zf,Zf,Zf,Zf,Zf,Zf,Zf,Zf,Zf] rfl rfl (Xq HT_.out HW_.out (by kernel_rfl)) (fun _ _ _ h => h) (Or.inl ⟨by rfl, ?_⟩) hHeld ?_ ?_
       rotate_left
       ·rintro w' ⟨s0, s1, s2, s3, s4, s5, s6, s7⟩
        go_simp
        with_reducible rfl
       rotate_left
       ·simp only [Act.put, Xa, Xb, Xc, Xf, Xg]
        rfl
       refine one_ (i := 10) (N := some 42) #[Zt,Zt,Zt,Zt,Zt,Zt,Zt,Zt,Zt,Zt,Zt,Zt,Zf,Zf,Zf,Zf,Zf,Zf,Zf,Zf,Zf,Zf,Zf,Zf,Zf,Zf,Zf,Zf,Zf,Zf,Zf,Zf] rfl rfl (one_of HT_.out (by kernel_rfl)) (by decide) (fun K hK => ?_)
       refine goes_ Try.func53 (by kernel_rfl) rfl #[.agg #[.int .i64 a0_0, .int .i64 a0_1, .int .i64 a0_2], .agg #[.int .i64 t186, .int .i64 t187, .int .i64 t188]] (by rfl) rfl rfl (by (try simp only [List.map_toArray, List.map_cons, List.map_nil]); first | done | rfl | (simp only [List.length_drop, List.length_take]; rfl)) ?_
       with_reducible refine (place_Then.calls kj7 a0_0 a0_1 a0_2 t186 t187 t188 t204 t205 t206 _ A43.out).mono ?_
       rintro e w66 ⟨rfl, hb⟩
       refine ⟨_, rfl, ?_⟩
       have n0_ := Za (Xe (g := gb179) (o := .cells #[.int .i64 a0_0, .int .i64 a0_1, .int .i64 a0_2] 23 (0, 0)) (bb_6 BK179.out) hb)
       have n1_ := Za (Xe (g := gb180) (o := .cells #[.int .i64 a1_0, .int .i64 a1_1, .int .i64 a1_2] 23 (0, 0)) (bb_6 BK180.out) hb)
       have n2_ := Za (Xe (g := gb181) (o := .cells #[.int .i64 a2_0, .int .i64 a2_1] 25 (0, 0)) (bb_6 BK181.out) hb)
       have n3_ := Za (Xe (g := gb189) (o := .cells #[.int .i64 t183, .int .i64 t184, .int .i64 t185] 23 (0, 0)) (bb_6 BK189.out) hb)
       have n4_ := Za (Xe (g := gb190) (o := .cells #[.int .i64 t186, .int .i64 t187, .int .i64 t188] 23 (0, 0)) (bb_6 BK190.out) hb)
       have n5_ := Za (Xo (hb_6 HB.out) hb)
       clear BK179
       clear BK180
       clear BK181
       clear BK189
       clear BK190
       clear HB
       have BK179 := n0_
       have BK180 := n1_
       have BK181 := n2_
       have BK189 := n3_
       have BK190 := n4_
       have HB := n5_
       clear n0_ n1_ n2_ n3_ n4_ n5_
       (try clear hb)
       (try clear hb2)
       (try clear hk)
       (try clear hi)
       refine hK.out _ _ ⟨(Xd BK190.out 0).trans rfl, (Xd BK190.out 1).trans rfl, (Xd BK190.out 2).trans rfl, (Xd BK179.out 0).trans rfl, (Xd BK179.out 1).trans rfl, (Xd BK179.out 2).trans rfl, (Xd BK181.out 0).trans rfl, (Xd BK181.out 1).trans rfl⟩ (fun hHeld => ?_)
       clear hK K
       refine Xr (a' := ?_) ?_ ?_
       rotate_left
       ·show Act.put _ (some 42) _ = _
        simp only [Act.put, Xa, Xb, Xc, Xf, Xg]
        rfl
       refine Xm (i := 12) (N := some 44) (v := ?_) (a' := ?_) #[Zt,Zt,Zt,Zt,Zt,Zt,Zt,Zt,Zt,Zt,Zt,Zt,Zt,Zf,Zf,Zf,Zf,Zf,Zf,Zf,Zf,Zf,Zf,Zf,Zf,Zf,Zf,Zf,Zf,Zf,Zf,Zf] rfl rfl (Xj HT_.out (by kernel_rfl)) (fun _ _ _ h => h) (Or.inl ⟨by rfl, ?_⟩) ?_ ?_
       rotate_left
       ·intro w'
        go_simp
        with_reducible rfl
       rotate_left
       ·simp only [Act.put, Xa, Xb, Xc, Xf, Xg]
        rfl
       refine Xm (i := 13) (N := some 45) (v := ?_) (a' := ?_) #[Zt,Zt,Zt,Zt,Zt,Zt,Zt,Zt,Zt,Zt,Zt,Zt,Zt,Zt,Zf,Zf,Zf,Zf,Zf,Zf,Zf,Zf,Zf,Zf,Zf,Zf,Zf,Zf,Zf,Zf,Zf,Zf] rfl rfl (Xj HT_.out (by kernel_rfl)) (fun _ _ _ h => h) (Or.inl ⟨by rfl, ?_⟩) ?_ ?_
       rotate_left
       ·intro w'
        go_simp
        with_reducible rfl
       rotate_left
       ·simp only [Act.put, Xa, Xb, Xc, Xf, Xg]
        rfl
       refine Xm (i := 14) (N := some 46) (v := ?_) (a' := ?_) #[Zt,Zt,Zt,Zt,Zt,Zt,Zt,Zt,Zt,Zt,Zt,Zt,Zt,Zt,Zt,Zf,Zf,Zf,Zf,Zf,Zf,Zf,Zf,Zf,Zf,Zf,Zf,Zf,Zf,Zf,Zf,Zf] rfl rfl (Xj HT_.out (by kernel_rfl)) (fun _ _ _ h => h) (Or.inl ⟨by rfl, ?_⟩) ?_ ?_
       rotate_left
       ·intro w'
        go_simp
        with_reducible rfl
       rotate_left
       ·simp only [Act.put, Xa, Xb, Xc, Xf, Xg]
        rfl
       refine Xm (i := 15) (N := some 47) (v := undef) (a' := ?_) #[Zt,Zt,Zt,Zt,Zt,Zt,Zt,Zt,Zt,Zt,Zt,Zt,Zt,Zt,Zt,Zt,Zf,Zf,Zf,Zf,Zf,Zf,Zf,Zf,Zf,Zf,Zf,Zf,Zf,Zf,Zf,Zf] rfl rfl (Xj HT_.out (by kernel_rfl)) (fun _ _ _ h => h) (Or.inr ⟨by rfl, rfl⟩) ?_ ?_
       rotate_left
       ·simp only [Act.put, Xa, Xb, Xc, Xf, Xg]
        rfl
       refine Xm (i := 16) (N := some 48) (v := undef) (a' := ?_) #[Zt,Zt,Zt,Zt,Zt,Zt,Zt,Zt,Zt,Zt,Zt,Zt,Zt,Zt,Zt,Zt,Zt,Zf,Zf,Zf,Zf,Zf,Zf,Zf,Zf,Zf,Zf,Zf,Zf,Zf,Zf,Zf] rfl rfl (Xj HT_.out (by kernel_rfl)) (fun _ _ _ h => h) (Or.inr ⟨by rfl, rfl⟩) ?_ ?_
       rotate_left
       ·simp only [Act.put, Xa, Xb, Xc, Xf, Xg]
        rfl
       refine Xm (i := 17) (N := some 49) (v := undef) (a' := ?_) #[Zt,Zt,Zt,Zt,Zt,Zt,Zt,Zt,Zt,Zt,Zt,Zt,Zt,Zt,Zt,Zt,Zt,Zt,Zf,Zf,Zf,Zf,Zf,Zf,Zf,Zf,Zf,Zf,Zf,Zf,Zf,Zf] rfl rfl (Xj HT_.out (by kernel_rfl)) (fun _ _ _ h => h) (Or.inr ⟨by rfl, rfl⟩) ?_ ?_
       rotate_left
       ·simp only [Act.put, Xa, Xb, Xc, Xf, Xg]
        rfl
       refine Xm (i := 18) (N := some 50) (v := undef) (a' := ?_) #[Zt,Zt,Zt,Zt,Zt,Zt,Zt,Zt,Zt,Zt,Zt,Zt,Zt,Zt,Zt,Zt,Zt,Zt,Zt,Zf,Zf,Zf,Zf,Zf,Zf,Zf,Zf,Zf,Zf,Zf,Zf,Zf] rfl rfl (Xj HT_.out (by kernel_rfl)) (fun _ _ _ h => h) (Or.inr ⟨by rfl, rfl⟩) ?_ ?_
       rotate_left
       ·simp only [Act.put, Xa, Xb, Xc, Xf, Xg]
        rfl
       refine Xm (i := 19) (N := some 51) (v := undef) (a' := ?_) #[Zt,Zt,Zt,Zt,Zt,Zt,Zt,Zt,Zt,Zt,Zt,Zt,Zt,Zt,Zt,Zt,Zt,Zt,Zt,Zt,Zf,Zf,Zf,Zf,Zf,Zf,Zf,Zf,Zf,Zf,Zf,Zf] rfl rfl (Xj HT_.out (by kernel_rfl)) (fun _ _ _ h => h) (Or.inr ⟨by rfl, rfl⟩) ?_ ?_
       rotate_left
       ·simp only [Act.put, Xa, Xb, Xc, Xf, Xg]
        rfl
       refine Xm (i := 20) (N := some 52) (v := ?_) (a' := ?_) #[Zt,Zt,Zt,Zt,Zt,Zt,Zt,Zt,Zt,Zt,Zt,Zt,Zt,Zt,Zt,Zt,Zt,Zt,Zt,Zt,Zt,Zf,Zf,Zf,Zf,Zf,Zf,Zf,Zf,Zf,Zf,Zf] rfl rfl (Xj HT_.out (by kernel_rfl)) (fun _ _ _ h => h) (Or.inl ⟨by rfl, ?_⟩) ?_ ?_
       rotate_left
       ·intro w'
        go_simp
        with_reducible rfl
       rotate_left
       ·simp only [Act.put, Xa, Xb, Xc, Xf, Xg]
        rfl
       refine Xm (i := 21) (N := some 53) (v := ?_) (a' := ?_) #[Zt,Zt,Zt,Zt,Zt,Zt,Zt,Zt,Zt,Zt,Zt,Zt,Zt,Zt,Zt,Zt,Zt,Zt,Zt,Zt,Zt,Zt,Zf,Zf,Zf,Zf,Zf,Zf,Zf,Zf,Zf,Zf] rfl rfl (Xj HT_.out (by kernel_rfl)) (fun _ _ _ h => h) (Or.inl ⟨by rfl, ?_⟩) ?_ ?_
       rotate_left
       ·intro w'
        go_simp
        with_reducible rfl
       rotate_left
       ·simp only [Act.put, Xa, Xb, Xc, Xf, Xg]
        rfl
       refine Xm (i := 22) (N := some 54) (v := undef) (a' := ?_) #[Zt,Zt,Zt,Zt,Zt,Zt,Zt,Zt,Zt,Zt,Zt,Zt,Zt,Zt,Zt,Zt,Zt,Zt,Zt,Zt,Zt,Zt,Zt,Zf,Zf,Zf,Zf,Zf,Zf,Zf,Zf,Zf] rfl rfl (Xj HT_.out (by kernel_rfl)) (fun _ _ _ h => h) (Or.inr ⟨by rfl, rfl⟩) ?_ ?_
       rotate_left
       ·simp only [Act.put, Xa, Xb, Xc, Xf, Xg]
        rfl
       refine Xm (i := 23) (N := some 55) (v := undef) (a' := ?_) #[Zt,Zt,Zt,Zt,Zt,Zt,Zt,Zt,Zt,Zt,Zt,Zt,Zt,Zt,Zt,Zt,Zt,Zt,Zt,Zt,Zt,Zt,Zt,Zt,Zf,Zf,Zf,Zf,Zf,Zf,Zf,Zf] rfl rfl (Xj HT_.out (by kernel_rfl)) (fun _ _ _ h => h) (Or.inr ⟨by rfl, rfl⟩) ?_ ?_
       rotate_left
       ·simp only [Act.put, Xa, Xb, Xc, Xf, Xg]
        rfl
       refine Xm (i := 24) (N := some 56) (v := undef) (a' := ?_) #[Zt,Zt,Zt,Zt,Zt,Zt,Zt,Zt,Zt,Zt,Zt,Zt,Zt,Zt,Zt,Zt,Zt,Zt,Zt,Zt,Zt,Zt,Zt,Zt,Zt,Zf,Zf,Zf,Zf,Zf,Zf,Zf] rfl rfl (Xj HT_.out (by kernel_rfl)) (fun _ _ _ h => h) (Or.inr ⟨by rfl, rfl⟩) ?_ ?_
       rotate_left
       ·simp only [Act.put, Xa, Xb, Xc, Xf, Xg]
        rfl
       refine Xm (i := 25) (N := some 57) (v := ?_) (a' := ?_) #[Zt,Zt,Zt,Zt,Zt,Zt,Zt,Zt,Zt,Zt,Zt,Zt,Zt,Zt,Zt,Zt,Zt,Zt,Zt,Zt,Zt,Zt,Zt,Zt,Zt,Zt,Zf,Zf,Zf,Zf,Zf,Zf] rfl rfl (Xj HT_.out (by kernel_rfl)) (fun _ _ _ h => h) (Or.inl ⟨by rfl, ?_⟩) ?_ ?_
       rotate_left
       ·intro w'
        go_simp
        with_reducible rfl
       rotate_left
       ·simp only [Act.put, Xa, Xb, Xc, Xf, Xg]
        rfl
       refine Xm (i := 26) (N := some 58) (v := ?_) (a' := ?_) #[Zt,Zt,Zt,Zt,Zt,Zt,Zt,Zt,Zt,Zt,Zt,Zt,Zt,Zt,Zt,Zt,Zt,Zt,Zt,Zt,Zt,Zt,Zt,Zt,Zt,Zt,Zt,Zf,Zf,Zf,Zf,Zf] rfl rfl (Xj HT_.out (by kernel_rfl)) (fun _ _ _ h => h) (Or.inl ⟨by rfl, ?_⟩) ?_ ?_
       rotate_left
       ·intro w'
        go_simp
        with_reducible rfl
       rotate_left
       ·simp only [Act.put, Xa, Xb, Xc, Xf, Xg]
        rfl
       refine Xm (i := 27) (N := some 59) (v := undef) (a' := ?_) #[Zt,Zt,Zt,Zt,Zt,Zt,Zt,Zt,Zt,Zt,Zt,Zt,Zt,Zt,Zt,Zt,Zt,Zt,Zt,Zt,Zt,Zt,Zt,Zt,Zt,Zt,Zt,Zt,Zf,Zf,Zf,Zf] rfl rfl (Xj HT_.out (by kernel_rfl)) (fun _ _ _ h => h) (Or.inr ⟨by rfl, rfl⟩) ?_ ?_
       rotate_left
       ·simp only [Act.put, Xa, Xb, Xc, Xf, Xg]
        rfl
       refine Xm (i := 28) (N := some 60) (v := undef) (a' := ?_) #[Zt,Zt,Zt,Zt,Zt,Zt,Zt,Zt,Zt,Zt,Zt,Zt,Zt,Zt,Zt,Zt,Zt,Zt,Zt,Zt,Zt,Zt,Zt,Zt,Zt,Zt,Zt,Zt,Zt,Zf,Zf,Zf] rfl rfl (Xj HT_.out (by kernel_rfl)) (fun _ _ _ h => h) (Or.inr ⟨by rfl, rfl⟩) ?_ ?_
       rotate_left
       ·simp only [Act.put, Xa, Xb, Xc, Xf, Xg]
        rfl
       refine Xm (i := 29) (N := some 61) (v := undef) (a' := ?_) #[Zt,Zt,Zt,Zt,Zt,Zt,Zt,Zt,Zt,Zt,Zt,Zt,Zt,Zt,Zt,Zt,Zt,Zt,Zt,Zt,Zt,Zt,Zt,Zt,Zt,Zt,Zt,Zt,Zt,Zt,Zf,Zf] rfl rfl (Xj HT_.out (by kernel_rfl)) (fun _ _ _ h => h) (Or.inr ⟨by rfl, rfl⟩) ?_ ?_
       rotate_left
       ·simp only [Act.put, Xa, Xb, Xc, Xf, Xg]
        rfl
       refine Xm (i := 30) (N := some 62) (v := ?_) (a' := ?_) #[Zt,Zt,Zt,Zt,Zt,Zt,Zt,Zt,Zt,Zt,Zt,Zt,Zt,Zt,Zt,Zt,Zt,Zt,Zt,Zt,Zt,Zt,Zt,Zt,Zt,Zt,Zt,Zt,Zt,Zt,Zt,Zf] rfl rfl (Xj HT_.out (by kernel_rfl)) (fun _ _ _ h => h) (Or.inl ⟨by rfl, ?_⟩) ?_ ?_
       rotate_left
       ·intro w'
        go_simp
        with_reducible rfl
       rotate_left
       ·simp only [Act.put, Xa, Xb, Xc, Xf, Xg]
        rfl
       refine Xm (i := 31) (N := some 6) (v := ?_) (a' := ?_) #[Zt,Zt,Zt,Zt,Zt,Zt,Zt,Zt,Zt,Zt,Zt,Zt,Zt,Zt,Zt,Zt,Zt,Zt,Zt,Zt,Zt,Zt,Zt,Zt,Zt,Zt,Zt,Zt,Zt,Zt,Zt,Zt] rfl rfl (Xj HT_.out (by kernel_rfl)) (fun _ _ _ h => h) (Or.inl ⟨by rfl, ?_⟩) ?_ ?_
       rotate_left
       ·intro w'
        go_simp
        with_reducible rfl
       rotate_left
       ·simp only [Act.put, Xa, Xb, Xc, Xf, Xg]
        rfl
       refine done_ (done_of HT_.out (by kernel_rfl)) ?_
       try go_wp2
       go_ret
       exact ⟨by first | rfl | (simp [errW_none, errW_some] <;> rfl) | (simp [*, errW_none, errW_some] <;> rfl), by repeat (first | (with_reducible first | exact HB.out | apply below_alloc | apply pw_below_drewN | apply below_drew1 | refine Xp ?_ GE179.out | refine Xp ?_ GE180.out | refine Xp ?_ GE181.out | refine Xp ?_ GE189.out | refine Xp ?_ GE190.out) | exact HB.out)⟩
     ·rw [if_neg c42] at H
      have c42b0 : (t202 == a2_0 && (t203 == a2_1)) = Zf := by simpa using c42
      (try (have c42b1 : decide (t202 = a2_0 && (t203 == a2_1)) = Zf := by simpa using c42))
      (try (have c42b2 : (t202 == a2_0 && (t203 == a2_1)) = Zf := by simpa using c42))
      (try (have c42b3 : ¬ (t202 = a2_0 && (t203 == a2_1)) := by simpa using c42))
      clear c42
      obtain rfl := Option.some.inj H
      try go_wp2
      have n0_ := Za (Xi BK179.out)
      have n1_ := Za (Xi BK180.out)
      have n2_ := Za (Xi BK181.out)
      have n3_ := Za (Xi BK189.out)
      have n4_ := Za (Xi BK190.out)
      have n5_ := Za (below_drew1 HB.out)
      clear BK179
      clear BK180
      clear BK181
      clear BK189
      clear BK190
      clear HB
      have BK179 := n0_
      have BK180 := n1_
      have BK181 := n2_
      have BK189 := n3_
      have BK190 := n4_
      have HB := n5_
      clear n0_ n1_ n2_ n3_ n4_ n5_
      refine start_ (n := 32) (S := fun w' => w'.cell? ⟨gb190, 0, none⟩ = some (.int .i64 t186) ∧ w'.cell? ⟨gb190, 1, none⟩ = some (.int .i64 t187) ∧ w'.cell? ⟨gb190, 2, none⟩ = some (.int .i64 t188) ∧ w'.cell? ⟨gb179, 0, none⟩ = some (.int .i64 a0_0) ∧ w'.cell? ⟨gb179, 1, none⟩ = some (.int .i64 a0_1) ∧ w'.cell? ⟨gb179, 2, none⟩ = some (.int .i64 a0_2) ∧ w'.cell? ⟨gb181, 0, none⟩ = some (.int .i64 a2_0) ∧ w'.cell? ⟨gb181, 1, none⟩ = some (.int .i64 a2_1)) (ds := []) #[Zf,Zf,Zf,Zf,Zf,Zf,Zf,Zf,Zf,Zf,Zf,Zf,Zf,Zf,Zf,Zf,Zf,Zf,Zf,Zf,Zf,Zf,Zf,Zf,Zf,Zf,Zf,Zf,Zf,Zf,Zf,Zf] (by kernel_rfl) rfl rfl ⟨(Xd BK190.out 0).trans rfl, (Xd BK190.out 1).trans rfl, (Xd BK190.out 2).trans rfl, (Xd BK179.out 0).trans rfl, (Xd BK179.out 1).trans rfl, (Xd BK179.out 2).trans rfl, (Xd BK181.out 0).trans rfl, (Xd BK181.out 1).trans rfl⟩ (fun hHeld => ?_); refine with_tabW gatherumlaw06_PlaceGroup.tab6 gatherumlaw06_PlaceGroup.bits6 (fun HT_ HW_ => ?_)
      generalize wc.drew = w67 at BK179 BK180 BK181 BK189 BK190 HB hHeld ⊢
      refine take_ (i := 0) (N := some 32) (v := ?_) (a' := ?_) #[Zt,Zf,Zf,Zf,Zf,Zf,Zf,Zf,Zf,Zf,Zf,Zf,Zf,Zf,Zf,Zf,Zf,Zf,Zf,Zf,Zf,Zf,Zf,Zf,Zf,Zf,Zf,Zf,Zf,Zf,Zf,Zf] rfl rfl (Xq HT_.out HW_.out (by kernel_rfl)) (fun _ _ _ h => h) (Or.inl ⟨by rfl, ?_⟩) hHeld ?_ ?_
      rotate_left
      ·rintro w' ⟨s0, s1, s2, s3, s4, s5, s6, s7⟩
       go_simp
       with_reducible rfl
      rotate_left
      ·simp only [Act.put, Xa, Xb, Xc, Xf, Xg]
       rfl
      refine take_ (i := 1) (N := some 33) (v := ?_) (a' := ?_) #[Zt,Zt,Zf,Zf,Zf,Zf,Zf,Zf,Zf,Zf,Zf,Zf,Zf,Zf,Zf,Zf,Zf,Zf,Zf,Zf,Zf,Zf,Zf,Zf,Zf,Zf,Zf,Zf,Zf,Zf,Zf,Zf] rfl rfl (Xq HT_.out HW_.out (by kernel_rfl)) (fun _ _ _ h => h) (Or.inl ⟨by rfl, ?_⟩) hHeld ?_ ?_
      rotate_left
      ·rintro w' ⟨s0, s1, s2, s3, s4, s5, s6, s7⟩
       go_simp
       with_reducible rfl
      rotate_left
      ·simp only [Act.put, Xa, Xb, Xc, Xf, Xg]
       rfl
      refine take_ (i := 2) (N := some 34) (v := ?_) (a' := ?_) #[Zt,Zt,Zt,Zf,Zf,Zf,Zf,Zf,Zf,Zf,Zf,Zf,Zf,Zf,Zf,Zf,Zf,Zf,Zf,Zf,Zf,Zf,Zf,Zf,Zf,Zf,Zf,Zf,Zf,Zf,Zf,Zf] rfl rfl (Xq HT_.out HW_.out (by kernel_rfl)) (fun _ _ _ h => h) (Or.inl ⟨by rfl, ?_⟩) hHeld ?_ ?_
      rotate_left
      ·rintro w' ⟨s0, s1, s2, s3, s4, s5, s6, s7⟩
       go_simp
       with_reducible rfl
      rotate_left
      ·simp only [Act.put, Xa, Xb, Xc, Xf, Xg]
       rfl
      refine take_ (i := 5) (N := some 37) (v := ?_) (a' := ?_) #[Zt,Zt,Zt,Zf,Zf,Zt,Zf,Zf,Zf,Zf,Zf,Zf,Zf,Zf,Zf,Zf,Zf,Zf,Zf,Zf,Zf,Zf,Zf,Zf,Zf,Zf,Zf,Zf,Zf,Zf,Zf,Zf] rfl rfl (Xq HT_.out HW_.out (by kernel_rfl)) (fun _ _ _ h => h) (Or.inl ⟨by rfl, ?_⟩) hHeld ?_ ?_
      rotate_left
      ·rintro w' ⟨s0, s1, s2, s3, s4, s5, s6, s7⟩
       go_simp
       with_reducible rfl
      rotate_left
      ·simp only [Act.put, Xa, Xb, Xc, Xf, Xg]
       rfl
      refine one_ (i := 3) (N := some 35) #[Zt,Zt,Zt,Zt,Zf,Zt,Zf,Zf,Zf,Zf,Zf,Zf,Zf,Zf,Zf,Zf,Zf,Zf,Zf,Zf,Zf,Zf,Zf,Zf,Zf,Zf,Zf,Zf,Zf,Zf,Zf,Zf] rfl rfl (one_of HT_.out (by kernel_rfl)) (by decide) (fun K hK => ?_)
      refine goes_ Try.func15 (by kernel_rfl) rfl #[.agg #[.int .i64 a0_0, .int .i64 a0_1, .int .i64 a0_2], .agg #[.int .i64 a2_0, .int .i64 a2_1]] (by rfl) rfl rfl (by (try simp only [List.map_toArray, List.map_cons, List.map_nil]); first | done | rfl | (simp only [List.length_drop, List.length_take]; rfl)) ?_
      with_reducible refine (place_Do.calls kj7 a0_0 a0_1 a0_2 a2_0 a2_1 t200 t201 _ A40.out).mono ?_
      rintro e w68 ⟨rfl, hb⟩
      refine ⟨_, rfl, ?_⟩
      have n0_ := Za (Xe (g := gb179) (o := .cells #[.int .i64 a0_0, .int .i64 a0_1, .int .i64 a0_2] 23 (0, 0)) (bb_6 BK179.out) hb)
      have n1_ := Za (Xe (g := gb180) (o := .cells #[.int .i64 a1_0, .int .i64 a1_1, .int .i64 a1_2] 23 (0, 0)) (bb_6 BK180.out) hb)
      have n2_ := Za (Xe (g := gb181) (o := .cells #[.int .i64 a2_0, .int .i64 a2_1] 25 (0, 0)) (bb_6 BK181.out) hb)
      have n3_ := Za (Xe (g := gb189) (o := .cells #[.int .i64 t183, .int .i64 t184, .int .i64 t185] 23 (0, 0)) (bb_6 BK189.out) hb)
      have n4_ := Za (Xe (g := gb190) (o := .cells #[.int .i64 t186, .int .i64 t187, .int .i64 t188] 23 (0, 0)) (bb_6 BK190.out) hb)
      have n5_ := Za (Xo (hb_6 HB.out) hb)
      clear BK179
      clear BK180
      clear BK181
      clear BK189
      clear BK190
      clear HB
      have BK179 := n0_
      have BK180 := n1_
      have BK181 := n2_
      have BK189 := n3_
      have BK190 := n4_
      have HB := n5_
      clear n0_ n1_ n2_ n3_ n4_ n5_
      (try clear hb)
      (try clear hb2)
      (try clear hk)
      (try clear hi)
      refine hK.out _ _ ⟨(Xd BK190.out 0).trans rfl, (Xd BK190.out 1).trans rfl, (Xd BK190.out 2).trans rfl, (Xd BK179.out 0).trans rfl, (Xd BK179.out 1).trans rfl, (Xd BK179.out 2).trans rfl, (Xd BK181.out 0).trans rfl, (Xd BK181.out 1).trans rfl⟩ (fun hHeld => ?_)
      clear hK K
      refine Xr (a' := ?_) ?_ ?_
      rotate_left
      ·show Act.put _ (some 35) _ = _
       simp only [Act.put, Xa, Xb, Xc, Xf, Xg]
       rfl
      refine one_ (i := 4) (N := some 36) #[Zt,Zt,Zt,Zt,Zt,Zt,Zf,Zf,Zf,Zf,Zf,Zf,Zf,Zf,Zf,Zf,Zf,Zf,Zf,Zf,Zf,Zf,Zf,Zf,Zf,Zf,Zf,Zf,Zf,Zf,Zf,Zf] rfl rfl (one_of HT_.out (by kernel_rfl)) (by decide) (fun K hK => ?_)
      refine goes_ Try.func15 (by kernel_rfl) rfl #[.agg #[.int .i64 t186, .int .i64 t187, .int .i64 t188], .agg #[.int .i64 t200, .int .i64 t201]] (by rfl) rfl rfl (by (try simp only [List.map_toArray, List.map_cons, List.map_nil]); first | done | rfl | (simp only [List.length_drop, List.length_take]; rfl)) ?_
      with_reducible refine (place_Do.calls kj7 t186 t187 t188 t200 t201 t202 t203 _ A41.out).mono ?_
      rintro e w69 ⟨rfl, hb⟩
      refine ⟨_, rfl, ?_⟩
      have n0_ := Za (Xe (g := gb179) (o := .cells #[.int .i64 a0_0, .int .i64 a0_1, .int .i64 a0_2] 23 (0, 0)) (bb_6 BK179.out) hb)
      have n1_ := Za (Xe (g := gb180) (o := .cells #[.int .i64 a1_0, .int .i64 a1_1, .int .i64 a1_2] 23 (0, 0)) (bb_6 BK180.out) hb)
      have n2_ := Za (Xe (g := gb181) (o := .cells #[.int .i64 a2_0, .int .i64 a2_1] 25 (0, 0)) (bb_6 BK181.out) hb)
      have n3_ := Za (Xe (g := gb189) (o := .cells #[.int .i64 t183, .int .i64 t184, .int .i64 t185] 23 (0, 0)) (bb_6 BK189.out) hb)
      have n4_ := Za (Xe (g := gb190) (o := .cells #[.int .i64 t186, .int .i64 t187, .int .i64 t188] 23 (0, 0)) (bb_6 BK190.out) hb)
      have n5_ := Za (Xo (hb_6 HB.out) hb)
      clear BK179
      clear BK180
      clear BK181
      clear BK189
      clear BK190
      clear HB
      have BK179 := n0_
      have BK180 := n1_
      have BK181 := n2_
      have BK189 := n3_
      have BK190 := n4_
      have HB := n5_
      clear n0_ n1_ n2_ n3_ n4_ n5_
      (try clear hb)
      (try clear hb2)
      (try clear hk)
      (try clear hi)
      refine hK.out _ _ ⟨(Xd BK190.out 0).trans rfl, (Xd BK190.out 1).trans rfl, (Xd BK190.out 2).trans rfl, (Xd BK179.out 0).trans rfl, (Xd BK179.out 1).trans rfl, (Xd BK179.out 2).trans rfl, (Xd BK181.out 0).trans rfl, (Xd BK181.out 1).trans rfl⟩ (fun hHeld => ?_)
      clear hK K
      refine Xr (a' := ?_) ?_ ?_
      rotate_left
      ·show Act.put _ (some 36) _ = _
       simp only [Act.put, Xa, Xb, Xc, Xf, Xg]
       rfl
      refine Xm (i := 6) (N := some 38) (v := ?_) (a' := ?_) #[Zt,Zt,Zt,Zt,Zt,Zt,Zt,Zf,Zf,Zf,Zf,Zf,Zf,Zf,Zf,Zf,Zf,Zf,Zf,Zf,Zf,Zf,Zf,Zf,Zf,Zf,Zf,Zf,Zf,Zf,Zf,Zf] rfl rfl (Xj HT_.out (by kernel_rfl)) (fun _ _ _ h => h) (Or.inl ⟨by rfl, ?_⟩) ?_ ?_
      rotate_left
      ·intro w'
       go_simp
       with_reducible rfl
      rotate_left
      ·simp only [Act.put, Xa, Xb, Xc, Xf, Xg]
       rfl
      refine Xm (i := 7) (N := some 39) (v := ?_) (a' := ?_) #[Zt,Zt,Zt,Zt,Zt,Zt,Zt,Zt,Zf,Zf,Zf,Zf,Zf,Zf,Zf,Zf,Zf,Zf,Zf,Zf,Zf,Zf,Zf,Zf,Zf,Zf,Zf,Zf,Zf,Zf,Zf,Zf] rfl rfl (Xj HT_.out (by kernel_rfl)) (fun _ _ _ h => h) (Or.inl ⟨by rfl, ?_⟩) ?_ ?_
      rotate_left
      ·intro w'
       go_simp
       with_reducible rfl
      rotate_left
      ·simp only [Act.put, Xa, Xb, Xc, Xf, Xg]
       rfl
      refine Xm (i := 8) (N := some 40) (v := undef) (a' := ?_) #[Zt,Zt,Zt,Zt,Zt,Zt,Zt,Zt,Zt,Zf,Zf,Zf,Zf,Zf,Zf,Zf,Zf,Zf,Zf,Zf,Zf,Zf,Zf,Zf,Zf,Zf,Zf,Zf,Zf,Zf,Zf,Zf] rfl rfl (Xj HT_.out (by kernel_rfl)) (fun _ _ _ h => h) (Or.inr ⟨by rfl, rfl⟩) ?_ ?_
      rotate_left
      ·simp only [Act.put, Xa, Xb, Xc, Xf, Xg]
       rfl
      refine Xm (i := 9) (N := some 41) (v := undef) (a' := ?_) #[Zt,Zt,Zt,Zt,Zt,Zt,Zt,Zt,Zt,Zt,Zf,Zf,Zf,Zf,Zf,Zf,Zf,Zf,Zf,Zf,Zf,Zf,Zf,Zf,Zf,Zf,Zf,Zf,Zf,Zf,Zf,Zf] rfl rfl (Xj HT_.out (by kernel_rfl)) (fun _ _ _ h => h) (Or.inr ⟨by rfl, rfl⟩) ?_ ?_
      rotate_left
      ·simp only [Act.put, Xa, Xb, Xc, Xf, Xg]
       rfl
      refine Xm (i := 10) (N := some 42) (v := undef) (a' := ?_) #[Zt,Zt,Zt,Zt,Zt,Zt,Zt,Zt,Zt,Zt,Zt,Zf,Zf,Zf,Zf,Zf,Zf,Zf,Zf,Zf,Zf,Zf,Zf,Zf,Zf,Zf,Zf,Zf,Zf,Zf,Zf,Zf] rfl rfl (Xj HT_.out (by kernel_rfl)) (fun _ _ _ h => h) (Or.inr ⟨by rfl, rfl⟩) ?_ ?_
      rotate_left
      ·simp only [Act.put, Xa, Xb, Xc, Xf, Xg]
       rfl
      refine Xm (i := 11) (N := some 43) (v := undef) (a' := ?_) #[Zt,Zt,Zt,Zt,Zt,Zt,Zt,Zt,Zt,Zt,Zt,Zt,Zf,Zf,Zf,Zf,Zf,Zf,Zf,Zf,Zf,Zf,Zf,Zf,Zf,Zf,Zf,Zf,Zf,Zf,Zf,Zf] rfl rfl (Xj HT_.out (by kernel_rfl)) (fun _ _ _ h => h) (Or.inr ⟨by rfl, rfl⟩) ?_ ?_
      rotate_left
      ·simp only [Act.put, Xa, Xb, Xc, Xf, Xg]
       rfl
      refine Xm (i := 12) (N := some 44) (v := undef) (a' := ?_) #[Zt,Zt,Zt,Zt,Zt,Zt,Zt,Zt,Zt,Zt,Zt,Zt,Zt,Zf,Zf,Zf,Zf,Zf,Zf,Zf,Zf,Zf,Zf,Zf,Zf,Zf,Zf,Zf,Zf,Zf,Zf,Zf] rfl rfl (Xj HT_.out (by kernel_rfl)) (fun _ _ _ h => h) (Or.inr ⟨by rfl, rfl⟩) ?_ ?_
      rotate_left
      ·simp only [Act.put, Xa, Xb, Xc, Xf, Xg]
       rfl
      refine Xm (i := 13) (N := some 45) (v := ?_) (a' := ?_) #[Zt,Zt,Zt,Zt,Zt,Zt,Zt,Zt,Zt,Zt,Zt,Zt,Zt,Zt,Zf,Zf,Zf,Zf,Zf,Zf,Zf,Zf,Zf,Zf,Zf,Zf,Zf,Zf,Zf,Zf,Zf,Zf] rfl rfl (Xj HT_.out (by kernel_rfl)) (fun _ _ _ h => h) (Or.inl ⟨by rfl, ?_⟩) ?_ ?_
      rotate_left
      ·intro w'
       go_simp
       with_reducible rfl
      rotate_left
      ·simp only [Act.put, Xa, Xb, Xc, Xf, Xg]
       rfl
      refine Xm (i := 14) (N := some 46) (v := ?_) (a' := ?_) #[Zt,Zt,Zt,Zt,Zt,Zt,Zt,Zt,Zt,Zt,Zt,Zt,Zt,Zt,Zt,Zf,Zf,Zf,Zf,Zf,Zf,Zf,Zf,Zf,Zf,Zf,Zf,Zf,Zf,Zf,Zf,Zf] rfl rfl (Xj HT_.out (by kernel_rfl)) (fun _ _ _ h => h) (Or.inl ⟨by rfl, ?_⟩) ?_ ?_
      rotate_left
      ·intro w'
       go_simp
       with_reducible rfl
      rotate_left
      ·simp only [Act.put, Xa, Xb, Xc, Xf, Xg]
       rfl
      refine Xm (i := 15) (N := some 47) (v := undef) (a' := ?_) #[Zt,Zt,Zt,Zt,Zt,Zt,Zt,Zt,Zt,Zt,Zt,Zt,Zt,Zt,Zt,Zt,Zf,Zf,Zf,Zf,Zf,Zf,Zf,Zf,Zf,Zf,Zf,Zf,Zf,Zf,Zf,Zf] rfl rfl (Xj HT_.out (by kernel_rfl)) (fun _ _ _ h => h) (Or.inr ⟨by rfl, rfl⟩) ?_ ?_
      rotate_left
      ·simp only [Act.put, Xa, Xb, Xc, Xf, Xg]
       rfl
      refine Xm (i := 16) (N := some 48) (v := undef) (a' := ?_) #[Zt,Zt,Zt,Zt,Zt,Zt,Zt,Zt,Zt,Zt,Zt,Zt,Zt,Zt,Zt,Zt,Zt,Zf,Zf,Zf,Zf,Zf,Zf,Zf,Zf,Zf,Zf,Zf,Zf,Zf,Zf,Zf] rfl rfl (Xj HT_.out (by kernel_rfl)) (fun _ _ _ h => h) (Or.inr ⟨by rfl, rfl⟩) ?_ ?_
      rotate_left
      ·simp only [Act.put, Xa, Xb, Xc, Xf, Xg]
       rfl
      refine Xm (i := 17) (N := some 49) (v := undef) (a' := ?_) #[Zt,Zt,Zt,Zt,Zt,Zt,Zt,Zt,Zt,Zt,Zt,Zt,Zt,Zt,Zt,Zt,Zt,Zt,Zf,Zf,Zf,Zf,Zf,Zf,Zf,Zf,Zf,Zf,Zf,Zf,Zf,Zf] rfl rfl (Xj HT_.out (by kernel_rfl)) (fun _ _ _ h => h) (Or.inr ⟨by rfl, rfl⟩) ?_ ?_
      rotate_left
      ·simp only [Act.put, Xa, Xb, Xc, Xf, Xg]
       rfl
      refine Xm (i := 18) (N := some 50) (v := undef) (a' := ?_) #[Zt,Zt,Zt,Zt,Zt,Zt,Zt,Zt,Zt,Zt,Zt,Zt,Zt,Zt,Zt,Zt,Zt,Zt,Zt,Zf,Zf,Zf,Zf,Zf,Zf,Zf,Zf,Zf,Zf,Zf,Zf,Zf] rfl rfl (Xj HT_.out (by kernel_rfl)) (fun _ _ _ h => h) (Or.inr ⟨by rfl, rfl⟩) ?_ ?_
      rotate_left
      ·simp only [Act.put, Xa, Xb, Xc, Xf, Xg]
       rfl
      refine Xm (i := 19) (N := some 51) (v := undef) (a' := ?_) #[Zt,Zt,Zt,Zt,Zt,Zt,Zt,Zt,Zt,Zt,Zt,Zt,Zt,Zt,Zt,Zt,Zt,Zt,Zt,Zt,Zf,Zf,Zf,Zf,Zf,Zf,Zf,Zf,Zf,Zf,Zf,Zf] rfl rfl (Xj HT_.out (by kernel_rfl)) (fun _ _ _ h => h) (Or.inr ⟨by rfl, rfl⟩) ?_ ?_
      rotate_left
      ·simp only [Act.put, Xa, Xb, Xc, Xf, Xg]
       rfl
      refine Xm (i := 20) (N := some 52) (v := ?_) (a' := ?_) #[Zt,Zt,Zt,Zt,Zt,Zt,Zt,Zt,Zt,Zt,Zt,Zt,Zt,Zt,Zt,Zt,Zt,Zt,Zt,Zt,Zt,Zf,Zf,Zf,Zf,Zf,Zf,Zf,Zf,Zf,Zf,Zf] rfl rfl (Xj HT_.out (by kernel_rfl)) (fun _ _ _ h => h) (Or.inl ⟨by rfl, ?_⟩) ?_ ?_
      rotate_left
      ·intro w'
       go_simp
       with_reducible rfl
      rotate_left
      ·simp only [Act.put, Xa, Xb, Xc, Xf, Xg]
       rfl
      refine Xm (i := 21) (N := some 53) (v := ?_) (a' := ?_) #[Zt,Zt,Zt,Zt,Zt,Zt,Zt,Zt,Zt,Zt,Zt,Zt,Zt,Zt,Zt,Zt,Zt,Zt,Zt,Zt,Zt,Zt,Zf,Zf,Zf,Zf,Zf,Zf,Zf,Zf,Zf,Zf] rfl rfl (Xj HT_.out (by kernel_rfl)) (fun _ _ _ h => h) (Or.inl ⟨by rfl, ?_⟩) ?_ ?_
      rotate_left
      ·intro w'
       go_simp
       with_reducible rfl
      rotate_left
      ·simp only [Act.put, Xa, Xb, Xc, Xf, Xg]
       rfl
      refine Xm (i := 22) (N := some 54) (v := undef) (a' := ?_) #[Zt,Zt,Zt,Zt,Zt,Zt,Zt,Zt,Zt,Zt,Zt,Zt,Zt,Zt,Zt,Zt,Zt,Zt,Zt,Zt,Zt,Zt,Zt,Zf,Zf,Zf,Zf,Zf,Zf,Zf,Zf,Zf] rfl rfl (Xj HT_.out (by kernel_rfl)) (fun _ _ _ h => h) (Or.inr ⟨by rfl, rfl⟩) ?_ ?_
      rotate_left
      ·simp only [Act.put, Xa, Xb, Xc, Xf, Xg]
       rfl
      refine Xm (i := 23) (N := some 55) (v := undef) (a' := ?_) #[Zt,Zt,Zt,Zt,Zt,Zt,Zt,Zt,Zt,Zt,Zt,Zt,Zt,Zt,Zt,Zt,Zt,Zt,Zt,Zt,Zt,Zt,Zt,Zt,Zf,Zf,Zf,Zf,Zf,Zf,Zf,Zf] rfl rfl (Xj HT_.out (by kernel_rfl)) (fun _ _ _ h => h) (Or.inr ⟨by rfl, rfl⟩) ?_ ?_
      rotate_left
      ·simp only [Act.put, Xa, Xb, Xc, Xf, Xg]
       rfl
      refine Xm (i := 24) (N := some 56) (v := undef) (a' := ?_) #[Zt,Zt,Zt,Zt,Zt,Zt,Zt,Zt,Zt,Zt,Zt,Zt,Zt,Zt,Zt,Zt,Zt,Zt,Zt,Zt,Zt,Zt,Zt,Zt,Zt,Zf,Zf,Zf,Zf,Zf,Zf,Zf] rfl rfl (Xj HT_.out (by kernel_rfl)) (fun _ _ _ h => h) (Or.inr ⟨by rfl, rfl⟩) ?_ ?_
      rotate_left
      ·simp only [Act.put, Xa, Xb, Xc, Xf, Xg]
       rfl
      refine Xm (i := 25) (N := some 57) (v := ?_) (a' := ?_) #[Zt,Zt,Zt,Zt,Zt,Zt,Zt,Zt,Zt,Zt,Zt,Zt,Zt,Zt,Zt,Zt,Zt,Zt,Zt,Zt,Zt,Zt,Zt,Zt,Zt,Zt,Zf,Zf,Zf,Zf,Zf,Zf] rfl rfl (Xj HT_.out (by kernel_rfl)) (fun _ _ _ h => h) (Or.inl ⟨by rfl, ?_⟩) ?_ ?_
      rotate_left
      ·intro w'
       go_simp
       with_reducible rfl
      rotate_left
      ·simp only [Act.put, Xa, Xb, Xc, Xf, Xg]
       rfl
      refine Xm (i := 26) (N := some 58) (v := ?_) (a' := ?_) #[Zt,Zt,Zt,Zt,Zt,Zt,Zt,Zt,Zt,Zt,Zt,Zt,Zt,Zt,Zt,Zt,Zt,Zt,Zt,Zt,Zt,Zt,Zt,Zt,Zt,Zt,Zt,Zf,Zf,Zf,Zf,Zf] rfl rfl (Xj HT_.out (by kernel_rfl)) (fun _ _ _ h => h) (Or.inl ⟨by rfl, ?_⟩) ?_ ?_
      rotate_left
      ·intro w'
       go_simp
       with_reducible rfl
      rotate_left
      ·simp only [Act.put, Xa, Xb, Xc, Xf, Xg]
       rfl
      refine Xm (i := 27) (N := some 59) (v := undef) (a' := ?_) #[Zt,Zt,Zt,Zt,Zt,Zt,Zt,Zt,Zt,Zt,Zt,Zt,Zt,Zt,Zt,Zt,Zt,Zt,Zt,Zt,Zt,Zt,Zt,Zt,Zt,Zt,Zt,Zt,Zf,Zf,Zf,Zf] rfl rfl (Xj HT_.out (by kernel_rfl)) (fun _ _ _ h => h) (Or.inr ⟨by rfl, rfl⟩) ?_ ?_
      rotate_left
      ·simp only [Act.put, Xa, Xb, Xc, Xf, Xg]
       rfl
      refine Xm (i := 28) (N := some 60) (v := undef) (a' := ?_) #[Zt,Zt,Zt,Zt,Zt,Zt,Zt,Zt,Zt,Zt,Zt,Zt,Zt,Zt,Zt,Zt,Zt,Zt,Zt,Zt,Zt,Zt,Zt,Zt,Zt,Zt,Zt,Zt,Zt,Zf,Zf,Zf] rfl rfl (Xj HT_.out (by kernel_rfl)) (fun _ _ _ h => h) (Or.inr ⟨by rfl, rfl⟩) ?_ ?_
      rotate_left
      ·simp only [Act.put, Xa, Xb, Xc, Xf, Xg]
       rfl
      refine Xm (i := 29) (N := some 61) (v := undef) (a' := ?_) #[Zt,Zt,Zt,Zt,Zt,Zt,Zt,Zt,Zt,Zt,Zt,Zt,Zt,Zt,Zt,Zt,Zt,Zt,Zt,Zt,Zt,Zt,Zt,Zt,Zt,Zt,Zt,Zt,Zt,Zt,Zf,Zf] rfl rfl (Xj HT_.out (by kernel_rfl)) (fun _ _ _ h => h) (Or.inr ⟨by rfl, rfl⟩) ?_ ?_
      rotate_left
      ·simp only [Act.put, Xa, Xb, Xc, Xf, Xg]
       rfl
      refine Xm (i := 30) (N := some 62) (v := ?_) (a' := ?_) #[Zt,Zt,Zt,Zt,Zt,Zt,Zt,Zt,Zt,Zt,Zt,Zt,Zt,Zt,Zt,Zt,Zt,Zt,Zt,Zt,Zt,Zt,Zt,Zt,Zt,Zt,Zt,Zt,Zt,Zt,Zt,Zf] rfl rfl (Xj HT_.out (by kernel_rfl)) (fun _ _ _ h => h) (Or.inl ⟨by rfl, ?_⟩) ?_ ?_
      rotate_left
      ·intro w'
       go_simp
       with_reducible rfl
      rotate_left
      ·simp only [Act.put, Xa, Xb, Xc, Xf, Xg]
       rfl
      refine Xm (i := 31) (N := some 6) (v := ?_) (a' := ?_) #[Zt,Zt,Zt,Zt,Zt,Zt,Zt,Zt,Zt,Zt,Zt,Zt,Zt,Zt,Zt,Zt,Zt,Zt,Zt,Zt,Zt,Zt,Zt,Zt,Zt,Zt,Zt,Zt,Zt,Zt,Zt,Zt] rfl rfl (Xj HT_.out (by kernel_rfl)) (fun _ _ _ h => h) (Or.inl ⟨by rfl, ?_⟩) ?_ ?_
      rotate_left
      ·intro w'
       go_simp
       with_reducible rfl
      rotate_left
      ·simp only [Act.put, Xa, Xb, Xc, Xf, Xg]
       rfl
      refine done_ (done_of HT_.out (by kernel_rfl)) ?_
      try go_wp2
      go_ret
      exact ⟨by first | rfl | (simp [errW_none, errW_some] <;> rfl) | (simp [*, errW_none, errW_some] <;> rfl), by repeat (first | (with_reducible first | exact HB.out | apply below_alloc | apply pw_below_drewN | apply below_drew1 | refine Xp ?_ GE179.out | refine Xp ?_ GE180.out | refine Xp ?_ GE181.out | refine Xp ?_ GE189.out | refine Xp ?_ GE190.out) | exact HB.out)⟩
 ·replace c5 := Bool.eq_false_iff.mpr c5
  subst c5
  have H1 : (some Zf) = some r := by rw [if_neg (show ¬ (Zf = Zt) by decide)] at H; exact H
  clear H
  have H := H1
  clear H1
  obtain rfl := Option.some.inj H
  go_enter Try.func13, Try.ntmps13
  go_wp2_with (first | ((with_reducible refine gate_dst (N := 3) rfl ?_); refine box_event ?hg (N := 3) ?hd (cs := #[.int .i64 a0_0, .int .i64 a0_1, .int .i64 a0_2]) (t := 23) ?hr ?_; (case hd => rfl); (case hg => rfl); (case hr => first | (go_simp; done) | (go_simp; rfl)); intro gb179 hg w70 hbox hb; have n0_ := Za (Xo (hb_6 HB.out) hb); have n1_ := Za (hbox); have n2_ := Za ((by rw [hg]; exact (Xs (hb_6 HB.out)) : w.heap.size ≤ gb179)); have n3_ := Za ((by rw [hg]; exact (Xs (hb_6 HB.out)) : w.heap.size ≤ gb179)); clear HB; have HB := n0_; have BK179 := n1_; have GW179 := n2_; have GE179 := n3_; clear n0_ n1_ n2_ n3_; clear hb hbox hg) | ((with_reducible refine gate_dst (N := 4) rfl ?_); refine box_event ?hg (N := 4) ?hd (cs := #[.int .i64 a1_0, .int .i64 a1_1, .int .i64 a1_2]) (t := 23) ?hr ?_; (case hd => rfl); (case hg => rfl); (case hr => first | (go_simp; done) | (go_simp; rfl)); intro gb180 hg w71 hbox hb; have n0_ := Za (Xe (g := gb179) (o := .cells #[.int .i64 a0_0, .int .i64 a0_1, .int .i64 a0_2] 23 (0, 0)) (bb_6 BK179.out) hb); have n1_ := Za (Xo (hb_6 HB.out) hb); have n2_ := Za (hbox); have n3_ := Za ((by rw [hg]; exact (Xs (hb_6 HB.out)) : w.heap.size ≤ gb180)); have n4_ := Za ((by rw [hg]; exact (Xs (hb_6 HB.out)) : w.heap.size ≤ gb180)); have n5_ := Za ((by rw [hg]; exact Nat.ne_of_lt (Xn (g := gb179) (o := .cells #[.int .i64 a0_0, .int .i64 a0_1, .int .i64 a0_2] 23 (0, 0)) (bb_6 BK179.out)) : gb179 ≠ gb180)); have n6_ := Za ((by rw [hg]; exact Nat.ne_of_gt (Xn (g := gb179) (o := .cells #[.int .i64 a0_0, .int .i64 a0_1, .int .i64 a0_2] 23 (0, 0)) (bb_6 BK179.out)) : gb180 ≠ gb179)); clear BK179; clear HB; have BK179 := n0_; have HB := n1_; have BK180 := n2_; have GW180 := n3_; have GE180 := n4_; have NB179_180 := n5_; have NB180_179 := n6_; clear n0_ n1_ n2_ n3_ n4_ n5_ n6_; clear hb hbox hg) | ((with_reducible refine gate_dst (N := 5) rfl ?_); refine box_event ?hg (N := 5) ?hd (cs := #[.int .i64 a2_0, .int .i64 a2_1]) (t := 25) ?hr ?_; (case hd => rfl); (case hg => rfl); (case hr => first | (go_simp; done) | (go_simp; rfl)); intro gb181 hg w72 hbox hb; have n0_ := Za (Xe (g := gb179) (o := .cells #[.int .i64 a0_0, .int .i64 a0_1, .int .i64 a0_2] 23 (0, 0)) (bb_6 BK179.out) hb); have n1_ := Za (Xe (g := gb180) (o := .cells #[.int .i64 a1_0, .int .i64 a1_1, .int .i64 a1_2] 23 (0, 0)) (bb_6 BK180.out) hb); have n2_ := Za (Xo (hb_6 HB.out) hb); have n3_ := Za (hbox); have n4_ := Za ((by rw [hg]; exact (Xs (hb_6 HB.out)) : w.heap.size ≤ gb181)); have n5_ := Za ((by rw [hg]; exact (Xs (hb_6 HB.out)) : w.heap.size ≤ gb181)); have n6_ := Za ((by rw [hg]; exact Nat.ne_of_lt (Xn (g := gb179) (o := .cells #[.int .i64 a0_0, .int .i64 a0_1, .int .i64 a0_2] 23 (0, 0)) (bb_6 BK179.out)) : gb179 ≠ gb181)); have n7_ := Za ((by rw [hg]; exact Nat.ne_of_gt (Xn (g := gb179) (o := .cells #[.int .i64 a0_0, .int .i64 a0_1, .int .i64 a0_2] 23 (0, 0)) (bb_6 BK179.out)) : gb181 ≠ gb179)); have n8_ := Za ((by rw [hg]; exact Nat.ne_of_lt (Xn (g := gb180) (o := .cells #[.int .i64 a1_0, .int .i64 a1_1, .int .i64 a1_2] 23 (0, 0)) (bb_6 BK180.out)) : gb180 ≠ gb181)); have n9_ := Za ((by rw [hg]; exact Nat.ne_of_gt (Xn (g := gb180) (o := .cells #[.int .i64 a1_0, .int .i64 a1_1, .int .i64 a1_2] 23 (0, 0)) (bb_6 BK180.out)) : gb181 ≠ gb180)); clear BK179; clear BK180; clear HB; have BK179 := n0_; have BK180 := n1_; have HB := n2_; have BK181 := n3_; have GW181 := n4_; have GE181 := n5_; have NB179_181 := n6_; have NB181_179 := n7_; have NB180_181 := n8_; have NB181_180 := n9_; clear n0_ n1_ n2_ n3_ n4_ n5_ n6_ n7_ n8_ n9_; clear hb hbox hg) | ((with_reducible refine gate_callee (f := 14) rfl ?_); refine goesL_ (some 9) rfl rfl Try.func14 (by kernel_rfl) rfl #[] rfl (by (try simp only [List.map_toArray, List.map_cons, List.map_nil]); first | done | rfl | (simp only [List.length_drop, List.length_take]; rfl)) ?_; (with_reducible refine (gatherumlaw06_alive.calls k  Zf _ A4.out).mono ?_); rintro e w73 ⟨rfl, hb⟩; refine ⟨_, rfl, ?_⟩; have n0_ := Za (Xe (g := gb179) (o := .cells #[.int .i64 a0_0, .int .i64 a0_1, .int .i64 a0_2] 23 (0, 0)) (bb_6 BK179.out) hb); have n1_ := Za (Xe (g := gb180) (o := .cells #[.int .i64 a1_0, .int .i64 a1_1, .int .i64 a1_2] 23 (0, 0)) (bb_6 BK180.out) hb); have n2_ := Za (Xe (g := gb181) (o := .cells #[.int .i64 a2_0, .int .i64 a2_1] 25 (0, 0)) (bb_6 BK181.out) hb); have n3_ := Za (Xo (hb_6 HB.out) hb); clear BK179; clear BK180; clear BK181; clear HB; have BK179 := n0_; have BK180 := n1_; have BK181 := n2_; have HB := n3_; clear n0_ n1_ n2_ n3_; (try clear hb); (try clear hb2); (try clear hk); (try clear hi)))
  go_ret
  exact ⟨by first | rfl | (simp [errW_none, errW_some] <;> rfl) | (simp [*, errW_none, errW_some] <;> rfl), by repeat (first | (with_reducible first | exact HB.out | apply below_alloc | apply pw_below_drewN | apply below_drew1 | refine Xp ?_ GE179.out | refine Xp ?_ GE180.out | refine Xp ?_ GE181.out) | exact HB.out)⟩

end Go.Proofs.Ytnahjeeochfljaa.PPlaceGroup
