import Derived.Test.YthgmjhidigoneaaPLayerKeepsx0
import Derived.Test.YthgmjhidigoneaaPLayerKeepsx1
import Derived.Test.YthgmjhidigoneaaPLayerKeepsx2
import Derived.Test.YthgmjhidigoneaaPLayerKeepsx8
import Derived.Test.YthgmjhidigoneaaPLayerKeepsx9
import Derived.Test.YthgmjhidigoneaaPLayerKeepsx10
import Derived.Test.YthgmjhidigoneaaPLayerKeepsx11
import Derived.Test.YthgmjhidigoneaaPLayerKeepsx12
import Derived.Test.YthgmjhidigoneaaPLayerKeepsx13
import Derived.Test.YthgmjhidigoneaaPLayerKeepsx15
namespace Go.Proofs.Ythgmjhidigoneaa.PLayerKeeps
open Go.RowKit Go.Proofs.YthgmjhidigoneaaW.PrintWords Go.Proofs.YthgmjhidigoneaaW.PrintLast Go.Proofs.YthgmjhidigoneaaW.PrintMore
open Bool renaming true → Zt, false → Zf
open Go.Proofs.YthgmjhidigoneaaW.PrintWords.Aside0 renaming mk → Za
open List renaming setIfInBounds_toArray → Xa, set_cons_zero → Xb, set_cons_succ → Xc
open Go.Proofs.YthgmjhidigoneaaW.PrintWords renaming blk_cell → Xd, blk_drew → Xe, blk_drewN → Xf, blk_alloc → Xg, blk_frozen → Xh, blk_below → Xi, blk_far → Xj
attribute [local go_sem] max2_int min2_int max_two min_two max_three min_three max_four min_four   -- for this text's walks alone
set_option linter.unusedVariables false
set_option linter.unusedSimpArgs false
theorem bb_16 {p q : Prop} (h : q) (f : q → p := by intro h_; (with_reducible repeat (first | refine blk_drewN ?_ _ | refine blk_drew ?_ | refine blk_alloc ?_ _)); exact h_) : p := f h
theorem hb_16 {B : Nat} {w W W1 : World} (h : Below B w W) (f : Below B w W → Below B w W1 := by intro h_; repeat (first | (with_reducible first | exact h_ | apply below_alloc | apply pw_below_drewN | apply below_drew1 | refine below_set ?_ (Aside0.out (by assumption))) | exact h_)) : Below B w W1 := f h

attribute [local go_sem high] eqA37 eqA55
/-! ### gatherumlaw38_LayerKeeps: function 14 -/
def gatherumlaw38_LayerKeeps.j0 : Nat → Bool → Bool → Int → Int → Int → Int → Int → Int → Int → Int → Int → Int → Int → Int → Int → Int → Int → Int → Int → Int → Option (Bool)
 | 0, _, _, _, _, _, _, _, _, _, _, _, _, _, _, _, _, _, _, _, _ => none
 | k + 1, x6, x33, x369000, x369001, x369002, x369003, x369004, x369005, x369006, x370000, x370001, x370002, x370003, x381000, x381001, x381002, x381003, x381004, x381005, x381006 => if x33 = Zt then (some Zf) else (if x6 = Zt then ((gatherumref38_Lies.f k x381000 x381001 x381002 x381003 x381004 x381005 x381006).bind fun bt390 => ((gatherumref38_Lies.f k x369000 x369001 x369002 x369003 x369004 x369005 x369006).bind fun bt394 => ((gatherumref04_Meet.f bt394.1 bt394.2.1 bt394.2.2.1 bt394.2.2.2 x370000 x370001 x370002 x370003).bind fun bt398 => (if (bt390.1 == bt398.1 && (bt390.2.1 == bt398.2.1 && (bt390.2.2.1 == bt398.2.2.1 && (bt390.2.2.2 == bt398.2.2.2)))) = Zt then ((gatherumref04_Within.f x381000 x381001 x381002 x381003 x369000 x369001 x369002 x369003).bind fun t402 => (some t402)) else (some Zf))))) else (some Zt))
def gatherumlaw38_LayerKeeps.f (k : Nat) (a0_0 : Int) (a0_1 : Int) (a0_2 : Int) (a0_3 : Int) (a0_4 : Int) (a0_5 : Int) (a0_6 : Int) (a1_0 : Int) (a1_1 : Int) (a1_2 : Int) (a1_3 : Int) : Option (Bool) := (gatherumlaw38_alive.f k).bind fun t370 => (if t370 = Zt then ((gatherumlaw38_near.f a0_0 a0_1 a0_2 a0_3 a0_4 a0_5 a0_6).bind fun t371 => (if t371 = Zt then ((layer_Keep.f k a0_0 a0_1 a0_2 a0_3 a0_4 a0_5 a0_6 a1_0 a1_1 a1_2 a1_3).bind fun bt372 => ((gatherumref38_Keep.f k a0_0 a0_1 a0_2 a0_3 a0_4 a0_5 a0_6 a1_0 a1_1 a1_2 a1_3).bind fun bt381 => (if ((!(bt372.1 == bt381.1) || (!(bt372.2.1 == bt381.2.1) || (!(bt372.2.2.1 == bt381.2.2.1) || (!(bt372.2.2.2.1 == bt381.2.2.2.1))))) || ((!(bt372.2.2.2.2.1 == bt381.2.2.2.2.1) || (!(bt372.2.2.2.2.2.1 == bt381.2.2.2.2.2.1) || (!(bt372.2.2.2.2.2.2.1 == bt381.2.2.2.2.2.2.1)))))) = Zt then (gatherumlaw38_LayerKeeps.j0 k bt372.2.2.2.2.2.2.2 Zt a0_0 a0_1 a0_2 a0_3 a0_4 a0_5 a0_6 a1_0 a1_1 a1_2 a1_3 bt372.1 bt372.2.1 bt372.2.2.1 bt372.2.2.2.1 bt372.2.2.2.2.1 bt372.2.2.2.2.2.1 bt372.2.2.2.2.2.2.1) else (gatherumlaw38_LayerKeeps.j0 k bt372.2.2.2.2.2.2.2 (bt372.2.2.2.2.2.2.2 != bt381.2.2.2.2.2.2.2) a0_0 a0_1 a0_2 a0_3 a0_4 a0_5 a0_6 a1_0 a1_1 a1_2 a1_3 bt372.1 bt372.2.1 bt372.2.2.1 bt372.2.2.2.1 bt372.2.2.2.2.1 bt372.2.2.2.2.2.1 bt372.2.2.2.2.2.2.1)))) else (some Zt))) else (some Zf))
theorem gatherumlaw38_LayerKeeps.mono_l : ∀ k, (∀ y0 y1 y2 y3 y4 y5 y6 y7 y8 y9 y10 y11 y12 y13 y14 y15 y16 y17 y18 y19, LeO (gatherumlaw38_LayerKeeps.j0 k y0 y1 y2 y3 y4 y5 y6 y7 y8 y9 y10 y11 y12 y13 y14 y15 y16 y17 y18 y19) (gatherumlaw38_LayerKeeps.j0 (k + 1) y0 y1 y2 y3 y4 y5 y6 y7 y8 y9 y10 y11 y12 y13 y14 y15 y16 y17 y18 y19))
 | 0 => fun _ _ _ _ _ _ _ _ _ _ _ _ _ _ _ _ _ _ _ _ r h => by simp [gatherumlaw38_LayerKeeps.j0] at h
 | k + 1 => by
  have ih0 := gatherumlaw38_LayerKeeps.mono_l k
  ·intro y0 y1 y2 y3 y4 y5 y6 y7 y8 y9 y10 y11 y12 y13 y14 y15 y16 y17 y18 y19
   unfold gatherumlaw38_LayerKeeps.j0
   repeat' first
   | (with_reducible exact ih0 _ _ _ _ _ _ _ _ _ _ _ _ _ _ _ _ _ _ _ _)
   | (with_reducible exact gatherumlaw38_alive.mono _)
   | (with_reducible exact gatherumref38_Keep.mono _ _ _ _ _ _ _ _ _ _ _ _)
   | (with_reducible exact gatherumref38_Lies.mono _ _ _ _ _ _ _ _)
   | (with_reducible exact layer_Keep.mono _ _ _ _ _ _ _ _ _ _ _ _)
   | (with_reducible exact LeO.refl _)
   | (with_reducible exact LeO.none _)
   | (with_reducible refine LeO.ite ?_ ?_)
   | (with_reducible refine LeO.bind ?_ (fun _ => ?_))
   | exact ih0 _ _ _ _ _ _ _ _ _ _ _ _ _ _ _ _ _ _ _ _
   | exact gatherumlaw38_alive.mono _
   | exact gatherumref38_Keep.mono _ _ _ _ _ _ _ _ _ _ _ _
   | exact gatherumref38_Lies.mono _ _ _ _ _ _ _ _
   | exact layer_Keep.mono _ _ _ _ _ _ _ _ _ _ _ _
   | exact LeO.none _
   | refine LeO.ite ?_ ?_
   | refine LeO.bind ?_ (fun _ => ?_)
theorem gatherumlaw38_LayerKeeps.mono : ∀ a0 a1 a2 a3 a4 a5 a6 a7 a8 a9 a10 k, LeO (gatherumlaw38_LayerKeeps.f k a0 a1 a2 a3 a4 a5 a6 a7 a8 a9 a10) (gatherumlaw38_LayerKeeps.f (k + 1) a0 a1 a2 a3 a4 a5 a6 a7 a8 a9 a10) := by
 intro a0 a1 a2 a3 a4 a5 a6 a7 a8 a9 a10 k
 have ih0 := gatherumlaw38_LayerKeeps.mono_l k
 unfold gatherumlaw38_LayerKeeps.f
 repeat' first
   | (with_reducible exact ih0 _ _ _ _ _ _ _ _ _ _ _ _ _ _ _ _ _ _ _ _)
   | (with_reducible exact gatherumlaw38_alive.mono _)
   | (with_reducible exact gatherumref38_Keep.mono _ _ _ _ _ _ _ _ _ _ _ _)
   | (with_reducible exact gatherumref38_Lies.mono _ _ _ _ _ _ _ _)
   | (with_reducible exact layer_Keep.mono _ _ _ _ _ _ _ _ _ _ _ _)
   | (with_reducible exact LeO.refl _)
   | (with_reducible exact LeO.none _)
   | (with_reducible refine LeO.ite ?_ ?_)
   | (with_reducible refine LeO.bind ?_ (fun _ => ?_))
   | exact ih0 _ _ _ _ _ _ _ _ _ _ _ _ _ _ _ _ _ _ _ _
   | exact gatherumlaw38_alive.mono _
   | exact gatherumref38_Keep.mono _ _ _ _ _ _ _ _ _ _ _ _
   | exact gatherumref38_Lies.mono _ _ _ _ _ _ _ _
   | exact layer_Keep.mono _ _ _ _ _ _ _ _ _ _ _ _
   | exact LeO.none _
   | refine LeO.ite ?_ ?_
   | refine LeO.bind ?_ (fun _ => ?_)
def gatherumlaw38_LayerKeeps.T9 : Bool × List (List Nat × List Nat) := (Zt, [([], []), ([0], [0]), ([1], [1]), ([2], [2]), ([3, 2, 2], [2, 3]), ([2], [2]), ([5, 4, 2], [2, 5]), ([2], [2]), ([6, 7, 6, 2], [2, 6, 7]), ([4, 8, 2], [2, 4, 8]), ([9, 8, 2], [2, 9]), ([10], [10]), ([11, 10], [10, 11]), ([10], [10]), ([13, 10], [10, 13]), ([12, 14, 10, 10], [10, 12, 14]), ([10, 15, 2], [2, 10, 15]), ([2, 16], [2, 16]), ([17, 15, 0, 1, 2, 3, 4, 5, 6, 7, 8, 9, 10, 11, 12, 13, 14, 15, 16, 17], [17])])
def gatherumlaw38_LayerKeeps.B9 : List Nat := [0, 1, 3, 7, 15, 7, 63, 7, 255, 511, 1023, 2047, 4095, 2047, 10239, 32767, 65535, 131071, 262143]
theorem gatherumlaw38_LayerKeeps.tab9 : rtab .any (opsOf Try.f14 9) = gatherumlaw38_LayerKeeps.T9 := by kernel_rfl
theorem gatherumlaw38_LayerKeeps.bits9 : waitsOk gatherumlaw38_LayerKeeps.T9.2 gatherumlaw38_LayerKeeps.B9 = Zt := by kernel_rfl
set_option maxHeartbeats 8000000 in
set_option maxRecDepth 100000 in
theorem gatherumlaw38_LayerKeeps.calls (k : Nat) (a0_0 : Int) (a0_1 : Int) (a0_2 : Int) (a0_3 : Int) (a0_4 : Int) (a0_5 : Int) (a0_6 : Int) (a1_0 : Int) (a1_1 : Int) (a1_2 : Int) (a1_3 : Int) (r : Bool) (w : World) (h : gatherumlaw38_LayerKeeps.f k a0_0 a0_1 a0_2 a0_3 a0_4 a0_5 a0_6 a1_0 a1_1 a1_2 a1_3 = some r) :
  Calls Try.prog 14 #[.agg #[.int .i64 a0_0, .int .i64 a0_1, .int .i64 a0_2, .int .i64 a0_3, .int .i64 a0_4, .int .i64 a0_5, .int .i64 a0_6], .agg #[.int .i64 a1_0, .int .i64 a1_1, .int .i64 a1_2, .int .i64 a1_3]] w fun e w' => e = .returned (.bool r) ∧ Below w.heap.size w w' := by
 have hu55 := Try.underlying55
 have hu37 := Try.underlying37
 have HB := Za (Below.refl w.heap.size w)
 have H : ((gatherumlaw38_alive.f k).bind fun t370 => (if t370 = Zt then ((gatherumlaw38_near.f a0_0 a0_1 a0_2 a0_3 a0_4 a0_5 a0_6).bind fun t371 => (if t371 = Zt then ((layer_Keep.f k a0_0 a0_1 a0_2 a0_3 a0_4 a0_5 a0_6 a1_0 a1_1 a1_2 a1_3).bind fun bt372 => ((gatherumref38_Keep.f k a0_0 a0_1 a0_2 a0_3 a0_4 a0_5 a0_6 a1_0 a1_1 a1_2 a1_3).bind fun bt381 => (if ((!(bt372.1 == bt381.1) || (!(bt372.2.1 == bt381.2.1) || (!(bt372.2.2.1 == bt381.2.2.1) || (!(bt372.2.2.2.1 == bt381.2.2.2.1))))) || ((!(bt372.2.2.2.2.1 == bt381.2.2.2.2.1) || (!(bt372.2.2.2.2.2.1 == bt381.2.2.2.2.2.1) || (!(bt372.2.2.2.2.2.2.1 == bt381.2.2.2.2.2.2.1)))))) = Zt then (gatherumlaw38_LayerKeeps.j0 k bt372.2.2.2.2.2.2.2 Zt a0_0 a0_1 a0_2 a0_3 a0_4 a0_5 a0_6 a1_0 a1_1 a1_2 a1_3 bt372.1 bt372.2.1 bt372.2.2.1 bt372.2.2.2.1 bt372.2.2.2.2.1 bt372.2.2.2.2.2.1 bt372.2.2.2.2.2.2.1) else (gatherumlaw38_LayerKeeps.j0 k bt372.2.2.2.2.2.2.2 (bt372.2.2.2.2.2.2.2 != bt381.2.2.2.2.2.2.2) a0_0 a0_1 a0_2 a0_3 a0_4 a0_5 a0_6 a1_0 a1_1 a1_2 a1_3 bt372.1 bt372.2.1 bt372.2.2.1 bt372.2.2.2.1 bt372.2.2.2.2.1 bt372.2.2.2.2.2.1 bt372.2.2.2.2.2.2.1)))) else (some Zt))) else (some Zf))) = some r := h
 clear h
 replace H := Option.bind_eq_some_iff.mp H
 obtain ⟨t370, A30, H⟩ := H
 replace H : (if t370 = Zt then ((gatherumlaw38_near.f a0_0 a0_1 a0_2 a0_3 a0_4 a0_5 a0_6).bind fun t371 => (if t371 = Zt then ((layer_Keep.f k a0_0 a0_1 a0_2 a0_3 a0_4 a0_5 a0_6 a1_0 a1_1 a1_2 a1_3).bind fun bt372 => ((gatherumref38_Keep.f k a0_0 a0_1 a0_2 a0_3 a0_4 a0_5 a0_6 a1_0 a1_1 a1_2 a1_3).bind fun bt381 => (if ((!(bt372.1 == bt381.1) || (!(bt372.2.1 == bt381.2.1) || (!(bt372.2.2.1 == bt381.2.2.1) || (!(bt372.2.2.2.1 == bt381.2.2.2.1))))) || ((!(bt372.2.2.2.2.1 == bt381.2.2.2.2.1) || (!(bt372.2.2.2.2.2.1 == bt381.2.2.2.2.2.1) || (!(bt372.2.2.2.2.2.2.1 == bt381.2.2.2.2.2.2.1)))))) = Zt then (gatherumlaw38_LayerKeeps.j0 k bt372.2.2.2.2.2.2.2 Zt a0_0 a0_1 a0_2 a0_3 a0_4 a0_5 a0_6 a1_0 a1_1 a1_2 a1_3 bt372.1 bt372.2.1 bt372.2.2.1 bt372.2.2.2.1 bt372.2.2.2.2.1 bt372.2.2.2.2.2.1 bt372.2.2.2.2.2.2.1) else (gatherumlaw38_LayerKeeps.j0 k bt372.2.2.2.2.2.2.2 (bt372.2.2.2.2.2.2.2 != bt381.2.2.2.2.2.2.2) a0_0 a0_1 a0_2 a0_3 a0_4 a0_5 a0_6 a1_0 a1_1 a1_2 a1_3 bt372.1 bt372.2.1 bt372.2.2.1 bt372.2.2.2.1 bt372.2.2.2.2.1 bt372.2.2.2.2.2.1 bt372.2.2.2.2.2.2.1)))) else (some Zt))) else (some Zf)) = some r := H
 have A3 := Za A30
 clear A30
 by_cases c4 : t370 = Zt
 ·subst c4
  have H1 : ((gatherumlaw38_near.f a0_0 a0_1 a0_2 a0_3 a0_4 a0_5 a0_6).bind fun t371 => (if t371 = Zt then ((layer_Keep.f k a0_0 a0_1 a0_2 a0_3 a0_4 a0_5 a0_6 a1_0 a1_1 a1_2 a1_3).bind fun bt372 => ((gatherumref38_Keep.f k a0_0 a0_1 a0_2 a0_3 a0_4 a0_5 a0_6 a1_0 a1_1 a1_2 a1_3).bind fun bt381 => (if ((!(bt372.1 == bt381.1) || (!(bt372.2.1 == bt381.2.1) || (!(bt372.2.2.1 == bt381.2.2.1) || (!(bt372.2.2.2.1 == bt381.2.2.2.1))))) || ((!(bt372.2.2.2.2.1 == bt381.2.2.2.2.1) || (!(bt372.2.2.2.2.2.1 == bt381.2.2.2.2.2.1) || (!(bt372.2.2.2.2.2.2.1 == bt381.2.2.2.2.2.2.1)))))) = Zt then (gatherumlaw38_LayerKeeps.j0 k bt372.2.2.2.2.2.2.2 Zt a0_0 a0_1 a0_2 a0_3 a0_4 a0_5 a0_6 a1_0 a1_1 a1_2 a1_3 bt372.1 bt372.2.1 bt372.2.2.1 bt372.2.2.2.1 bt372.2.2.2.2.1 bt372.2.2.2.2.2.1 bt372.2.2.2.2.2.2.1) else (gatherumlaw38_LayerKeeps.j0 k bt372.2.2.2.2.2.2.2 (bt372.2.2.2.2.2.2.2 != bt381.2.2.2.2.2.2.2) a0_0 a0_1 a0_2 a0_3 a0_4 a0_5 a0_6 a1_0 a1_1 a1_2 a1_3 bt372.1 bt372.2.1 bt372.2.2.1 bt372.2.2.2.1 bt372.2.2.2.2.1 bt372.2.2.2.2.2.1 bt372.2.2.2.2.2.2.1)))) else (some Zt))) = some r := by rw [if_pos rfl] at H; exact H
  clear H
  have H := H1
  clear H1
  replace H := Option.bind_eq_some_iff.mp H
  obtain ⟨t371, A50, H⟩ := H
  replace H : (if t371 = Zt then ((layer_Keep.f k a0_0 a0_1 a0_2 a0_3 a0_4 a0_5 a0_6 a1_0 a1_1 a1_2 a1_3).bind fun bt372 => ((gatherumref38_Keep.f k a0_0 a0_1 a0_2 a0_3 a0_4 a0_5 a0_6 a1_0 a1_1 a1_2 a1_3).bind fun bt381 => (if ((!(bt372.1 == bt381.1) || (!(bt372.2.1 == bt381.2.1) || (!(bt372.2.2.1 == bt381.2.2.1) || (!(bt372.2.2.2.1 == bt381.2.2.2.1))))) || ((!(bt372.2.2.2.2.1 == bt381.2.2.2.2.1) || (!(bt372.2.2.2.2.2.1 == bt381.2.2.2.2.2.1) || (!(bt372.2.2.2.2.2.2.1 == bt381.2.2.2.2.2.2.1)))))) = Zt then (gatherumlaw38_LayerKeeps.j0 k bt372.2.2.2.2.2.2.2 Zt a0_0 a0_1 a0_2 a0_3 a0_4 a0_5 a0_6 a1_0 a1_1 a1_2 a1_3 bt372.1 bt372.2.1 bt372.2.2.1 bt372.2.2.2.1 bt372.2.2.2.2.1 bt372.2.2.2.2.2.1 bt372.2.2.2.2.2.2.1) else (gatherumlaw38_LayerKeeps.j0 k bt372.2.2.2.2.2.2.2 (bt372.2.2.2.2.2.2.2 != bt381.2.2.2.2.2.2.2) a0_0 a0_1 a0_2 a0_3 a0_4 a0_5 a0_6 a1_0 a1_1 a1_2 a1_3 bt372.1 bt372.2.1 bt372.2.2.1 bt372.2.2.2.1 bt372.2.2.2.2.1 bt372.2.2.2.2.2.1 bt372.2.2.2.2.2.2.1)))) else (some Zt)) = some r := H
  have A5 := Za A50
  clear A50
  by_cases c6 : t371 = Zt
  ·subst c6
   have H1 : ((layer_Keep.f k a0_0 a0_1 a0_2 a0_3 a0_4 a0_5 a0_6 a1_0 a1_1 a1_2 a1_3).bind fun bt372 => ((gatherumref38_Keep.f k a0_0 a0_1 a0_2 a0_3 a0_4 a0_5 a0_6 a1_0 a1_1 a1_2 a1_3).bind fun bt381 => (if ((!(bt372.1 == bt381.1) || (!(bt372.2.1 == bt381.2.1) || (!(bt372.2.2.1 == bt381.2.2.1) || (!(bt372.2.2.2.1 == bt381.2.2.2.1))))) || ((!(bt372.2.2.2.2.1 == bt381.2.2.2.2.1) || (!(bt372.2.2.2.2.2.1 == bt381.2.2.2.2.2.1) || (!(bt372.2.2.2.2.2.2.1 == bt381.2.2.2.2.2.2.1)))))) = Zt then (gatherumlaw38_LayerKeeps.j0 k bt372.2.2.2.2.2.2.2 Zt a0_0 a0_1 a0_2 a0_3 a0_4 a0_5 a0_6 a1_0 a1_1 a1_2 a1_3 bt372.1 bt372.2.1 bt372.2.2.1 bt372.2.2.2.1 bt372.2.2.2.2.1 bt372.2.2.2.2.2.1 bt372.2.2.2.2.2.2.1) else (gatherumlaw38_LayerKeeps.j0 k bt372.2.2.2.2.2.2.2 (bt372.2.2.2.2.2.2.2 != bt381.2.2.2.2.2.2.2) a0_0 a0_1 a0_2 a0_3 a0_4 a0_5 a0_6 a1_0 a1_1 a1_2 a1_3 bt372.1 bt372.2.1 bt372.2.2.1 bt372.2.2.2.1 bt372.2.2.2.2.1 bt372.2.2.2.2.2.1 bt372.2.2.2.2.2.2.1)))) = some r := by rw [if_pos rfl] at H; exact H
   clear H
   have H := H1
   clear H1
   replace H := Option.bind_eq_some_iff.mp H
   obtain ⟨⟨t372, t373, t374, t375, t376, t377, t378, t379⟩, A70, H⟩ := H
   replace H : ((gatherumref38_Keep.f k a0_0 a0_1 a0_2 a0_3 a0_4 a0_5 a0_6 a1_0 a1_1 a1_2 a1_3).bind fun bt381 => (if ((!(t372 == bt381.1) || (!(t373 == bt381.2.1) || (!(t374 == bt381.2.2.1) || (!(t375 == bt381.2.2.2.1))))) || ((!(t376 == bt381.2.2.2.2.1) || (!(t377 == bt381.2.2.2.2.2.1) || (!(t378 == bt381.2.2.2.2.2.2.1)))))) = Zt then (gatherumlaw38_LayerKeeps.j0 k t379 Zt a0_0 a0_1 a0_2 a0_3 a0_4 a0_5 a0_6 a1_0 a1_1 a1_2 a1_3 t372 t373 t374 t375 t376 t377 t378) else (gatherumlaw38_LayerKeeps.j0 k t379 (t379 != bt381.2.2.2.2.2.2.2) a0_0 a0_1 a0_2 a0_3 a0_4 a0_5 a0_6 a1_0 a1_1 a1_2 a1_3 t372 t373 t374 t375 t376 t377 t378))) = some r := H
   have A7 := Za A70
   clear A70
   replace H := Option.bind_eq_some_iff.mp H
   obtain ⟨⟨t381, t382, t383, t384, t385, t386, t387, t388⟩, A80, H⟩ := H
   replace H : (if ((!(t372 == t381) || (!(t373 == t382) || (!(t374 == t383) || (!(t375 == t384))))) || ((!(t376 == t385) || (!(t377 == t386) || (!(t378 == t387)))))) = Zt then (gatherumlaw38_LayerKeeps.j0 k t379 Zt a0_0 a0_1 a0_2 a0_3 a0_4 a0_5 a0_6 a1_0 a1_1 a1_2 a1_3 t372 t373 t374 t375 t376 t377 t378) else (gatherumlaw38_LayerKeeps.j0 k t379 (t379 != t388) a0_0 a0_1 a0_2 a0_3 a0_4 a0_5 a0_6 a1_0 a1_1 a1_2 a1_3 t372 t373 t374 t375 t376 t377 t378)) = some r := H
   have A8 := Za A80
   clear A80
   have HC9 := Za H
   clear H
   go_enter Try.func14, Try.ntmps14
   go_upto_region 7 with (first | ((with_reducible refine gate_dst (N := 2) rfl ?_); refine box_event ?hg (N := 2) ?hd (cs := #[.int .i64 a0_0, .int .i64 a0_1, .int .i64 a0_2, .int .i64 a0_3, .int .i64 a0_4, .int .i64 a0_5, .int .i64 a0_6]) (t := 55) ?hr ?_; (case hd => rfl); (case hg => rfl); (case hr => first | (go_simp; done) | (go_simp; rfl)); intro gb368 hg w10 hbox hb; have n0_ := Za (below_step (hb_16 HB.out) hb); have n1_ := Za (hbox); have n2_ := Za ((by rw [hg]; exact (below_size (hb_16 HB.out)) : w.heap.size ≤ gb368)); have n3_ := Za ((by rw [hg]; exact (below_size (hb_16 HB.out)) : w.heap.size ≤ gb368)); clear HB; have HB := n0_; have BK368 := n1_; have GW368 := n2_; have GE368 := n3_; clear n0_ n1_ n2_ n3_; clear hb hbox hg) | ((with_reducible refine gate_dst (N := 3) rfl ?_); refine box_event ?hg (N := 3) ?hd (cs := #[.int .i64 a1_0, .int .i64 a1_1, .int .i64 a1_2, .int .i64 a1_3]) (t := 37) ?hr ?_; (case hd => rfl); (case hg => rfl); (case hr => first | (go_simp; done) | (go_simp; rfl)); intro gb369 hg w11 hbox hb; have n0_ := Za (Xi (g := gb368) (o := .cells #[.int .i64 a0_0, .int .i64 a0_1, .int .i64 a0_2, .int .i64 a0_3, .int .i64 a0_4, .int .i64 a0_5, .int .i64 a0_6] 55 (0, 0)) (bb_16 BK368.out) hb); have n1_ := Za (below_step (hb_16 HB.out) hb); have n2_ := Za (hbox); have n3_ := Za ((by rw [hg]; exact (below_size (hb_16 HB.out)) : w.heap.size ≤ gb369)); have n4_ := Za ((by rw [hg]; exact (below_size (hb_16 HB.out)) : w.heap.size ≤ gb369)); have n5_ := Za ((by rw [hg]; exact Nat.ne_of_lt (blk_lt (g := gb368) (o := .cells #[.int .i64 a0_0, .int .i64 a0_1, .int .i64 a0_2, .int .i64 a0_3, .int .i64 a0_4, .int .i64 a0_5, .int .i64 a0_6] 55 (0, 0)) (bb_16 BK368.out)) : gb368 ≠ gb369)); have n6_ := Za ((by rw [hg]; exact Nat.ne_of_gt (blk_lt (g := gb368) (o := .cells #[.int .i64 a0_0, .int .i64 a0_1, .int .i64 a0_2, .int .i64 a0_3, .int .i64 a0_4, .int .i64 a0_5, .int .i64 a0_6] 55 (0, 0)) (bb_16 BK368.out)) : gb369 ≠ gb368)); clear BK368; clear HB; have BK368 := n0_; have HB := n1_; have BK369 := n2_; have GW369 := n3_; have GE369 := n4_; have NB368_369 := n5_; have NB369_368 := n6_; clear n0_ n1_ n2_ n3_ n4_ n5_ n6_; clear hb hbox hg) | ((with_reducible refine gate_callee (f := 36) rfl ?_); refine goesL_ (some 9) rfl rfl Try.func36 (by kernel_rfl) rfl #[] rfl (by (try simp only [List.map_toArray, List.map_cons, List.map_nil]); first | done | rfl | (simp only [List.length_drop, List.length_take]; rfl)) ?_; (with_reducible refine (gatherumlaw38_alive.calls k  Zt _ A3.out).mono ?_); rintro e w12 ⟨rfl, hb⟩; refine ⟨_, rfl, ?_⟩; have n0_ := Za (Xi (g := gb368) (o := .cells #[.int .i64 a0_0, .int .i64 a0_1, .int .i64 a0_2, .int .i64 a0_3, .int .i64 a0_4, .int .i64 a0_5, .int .i64 a0_6] 55 (0, 0)) (bb_16 BK368.out) hb); have n1_ := Za (Xi (g := gb369) (o := .cells #[.int .i64 a1_0, .int .i64 a1_1, .int .i64 a1_2, .int .i64 a1_3] 37 (0, 0)) (bb_16 BK369.out) hb); have n2_ := Za (below_step (hb_16 HB.out) hb); clear BK368; clear BK369; clear HB; have BK368 := n0_; have BK369 := n1_; have HB := n2_; clear n0_ n1_ n2_; (try clear hb); (try clear hb2); (try clear hk); (try clear hi); have hnb13 := NB368_369.out; have hnc13 := NB369_368.out; have hcz14_0 : w12.cell? ⟨gb368, 0, none⟩ = some (.int .i64 a0_0) := (Xd BK368.out 0).trans rfl; have hcz14_1 : w12.cell? ⟨gb368, 1, none⟩ = some (.int .i64 a0_1) := (Xd BK368.out 1).trans rfl; have hcz14_2 : w12.cell? ⟨gb368, 2, none⟩ = some (.int .i64 a0_2) := (Xd BK368.out 2).trans rfl; have hcz14_3 : w12.cell? ⟨gb368, 3, none⟩ = some (.int .i64 a0_3) := (Xd BK368.out 3).trans rfl; have hcz14_4 : w12.cell? ⟨gb368, 4, none⟩ = some (.int .i64 a0_4) := (Xd BK368.out 4).trans rfl; have hcz14_5 : w12.cell? ⟨gb368, 5, none⟩ = some (.int .i64 a0_5) := (Xd BK368.out 5).trans rfl; have hcz14_6 : w12.cell? ⟨gb368, 6, none⟩ = some (.int .i64 a0_6) := (Xd BK368.out 6).trans rfl; have hfz14_0 := Xh BK368.out 0; have hfz14_1 := Xh BK368.out 1; have hfz14_2 := Xh BK368.out 2; have hfz14_3 := Xh BK368.out 3; have hfz14_4 := Xh BK368.out 4; have hfz14_5 := Xh BK368.out 5; have hfz14_6 := Xh BK368.out 6) | ((with_reducible refine gate_callee (f := 43) rfl ?_); refine goesL_ (some 12) rfl rfl Try.func43 (by kernel_rfl) rfl #[.agg #[.int .i64 a0_0, .int .i64 a0_1, .int .i64 a0_2, .int .i64 a0_3, .int .i64 a0_4, .int .i64 a0_5, .int .i64 a0_6]] rfl (by (try simp only [List.map_toArray, List.map_cons, List.map_nil]); first | done | rfl | (simp only [List.length_drop, List.length_take]; rfl)) ?_; (with_reducible refine (gatherumlaw38_near.calls a0_0 a0_1 a0_2 a0_3 a0_4 a0_5 a0_6 Zt _ A5.out).mono ?_); rintro e w15 ⟨rfl, hb⟩; refine ⟨_, rfl, ?_⟩; have n0_ := Za (Xi (g := gb368) (o := .cells #[.int .i64 a0_0, .int .i64 a0_1, .int .i64 a0_2, .int .i64 a0_3, .int .i64 a0_4, .int .i64 a0_5, .int .i64 a0_6] 55 (0, 0)) (bb_16 BK368.out) hb); have n1_ := Za (Xi (g := gb369) (o := .cells #[.int .i64 a1_0, .int .i64 a1_1, .int .i64 a1_2, .int .i64 a1_3] 37 (0, 0)) (bb_16 BK369.out) hb); have n2_ := Za (below_step (hb_16 HB.out) hb); clear BK368; clear BK369; clear HB; have BK368 := n0_; have BK369 := n1_; have HB := n2_; clear n0_ n1_ n2_; (try clear hb); (try clear hb2); (try clear hk); (try clear hi); have hcz16_0 : w15.cell? ⟨gb368, 0, none⟩ = some (.int .i64 a0_0) := (Xd BK368.out 0).trans rfl; have hcz16_1 : w15.cell? ⟨gb368, 1, none⟩ = some (.int .i64 a0_1) := (Xd BK368.out 1).trans rfl; have hcz16_2 : w15.cell? ⟨gb368, 2, none⟩ = some (.int .i64 a0_2) := (Xd BK368.out 2).trans rfl; have hcz16_3 : w15.cell? ⟨gb368, 3, none⟩ = some (.int .i64 a0_3) := (Xd BK368.out 3).trans rfl; have hcz16_4 : w15.cell? ⟨gb368, 4, none⟩ = some (.int .i64 a0_4) := (Xd BK368.out 4).trans rfl; have hcz16_5 : w15.cell? ⟨gb368, 5, none⟩ = some (.int .i64 a0_5) := (Xd BK368.out 5).trans rfl; have hcz16_6 : w15.cell? ⟨gb368, 6, none⟩ = some (.int .i64 a0_6) := (Xd BK368.out 6).trans rfl; have hfz16_0 := Xh BK368.out 0; have hfz16_1 := Xh BK368.out 1; have hfz16_2 := Xh BK368.out 2; have hfz16_3 := Xh BK368.out 3; have hfz16_4 := Xh BK368.out 4; have hfz16_5 := Xh BK368.out 5; have hfz16_6 := Xh BK368.out 6; have hcz17_0 : w15.cell? ⟨gb369, 0, none⟩ = some (.int .i64 a1_0) := (Xd BK369.out 0).trans rfl; have hcz17_1 : w15.cell? ⟨gb369, 1, none⟩ = some (.int .i64 a1_1) := (Xd BK369.out 1).trans rfl; have hcz17_2 : w15.cell? ⟨gb369, 2, none⟩ = some (.int .i64 a1_2) := (Xd BK369.out 2).trans rfl; have hcz17_3 : w15.cell? ⟨gb369, 3, none⟩ = some (.int .i64 a1_3) := (Xd BK369.out 3).trans rfl; have hfz17_0 := Xh BK369.out 0; have hfz17_1 := Xh BK369.out 1; have hfz17_2 := Xh BK369.out 2; have hfz17_3 := Xh BK369.out 3) | ((with_reducible refine gate_callee (f := 64) rfl ?_); refine goesL_ (some 17) rfl rfl Try.func64 (by kernel_rfl) rfl #[.agg #[.int .i64 a0_0, .int .i64 a0_1, .int .i64 a0_2, .int .i64 a0_3, .int .i64 a0_4, .int .i64 a0_5, .int .i64 a0_6], .agg #[.int .i64 a1_0, .int .i64 a1_1, .int .i64 a1_2, .int .i64 a1_3]] rfl (by (try simp only [List.map_toArray, List.map_cons, List.map_nil]); first | done | rfl | (simp only [List.length_drop, List.length_take]; rfl)) ?_; (with_reducible refine (layer_Keep.calls k a0_0 a0_1 a0_2 a0_3 a0_4 a0_5 a0_6 a1_0 a1_1 a1_2 a1_3 t372 t373 t374 t375 t376 t377 t378 t379 _ A7.out).mono ?_); rintro e w18 ⟨rfl, hb⟩; refine ⟨_, rfl, ?_⟩; have n0_ := Za (Xi (g := gb368) (o := .cells #[.int .i64 a0_0, .int .i64 a0_1, .int .i64 a0_2, .int .i64 a0_3, .int .i64 a0_4, .int .i64 a0_5, .int .i64 a0_6] 55 (0, 0)) (bb_16 BK368.out) hb); have n1_ := Za (Xi (g := gb369) (o := .cells #[.int .i64 a1_0, .int .i64 a1_1, .int .i64 a1_2, .int .i64 a1_3] 37 (0, 0)) (bb_16 BK369.out) hb); have n2_ := Za (below_step (hb_16 HB.out) hb); clear BK368; clear BK369; clear HB; have BK368 := n0_; have BK369 := n1_; have HB := n2_; clear n0_ n1_ n2_; (try clear hb); (try clear hb2); (try clear hk); (try clear hi)) | ((with_reducible refine gate_dst (N := 5) rfl ?_); refine box_event ?hg (N := 5) ?hd (cs := #[.int .i64 0, .int .i64 0, .int .i64 0, .int .i64 0, .int .i64 0, .int .i64 0, .int .i64 0]) (t := 55) ?hr ?_; (case hd => rfl); (case hg => rfl); (case hr => first | (go_simp; done) | (go_simp; rfl)); intro gb380 hg w19 hbox hb; have n0_ := Za (Xi (g := gb368) (o := .cells #[.int .i64 a0_0, .int .i64 a0_1, .int .i64 a0_2, .int .i64 a0_3, .int .i64 a0_4, .int .i64 a0_5, .int .i64 a0_6] 55 (0, 0)) (bb_16 BK368.out) hb); have n1_ := Za (Xi (g := gb369) (o := .cells #[.int .i64 a1_0, .int .i64 a1_1, .int .i64 a1_2, .int .i64 a1_3] 37 (0, 0)) (bb_16 BK369.out) hb); have n2_ := Za (below_step (hb_16 HB.out) hb); have n3_ := Za (hbox); have n4_ := Za ((by rw [hg]; exact (below_size (hb_16 HB.out)) : w.heap.size ≤ gb380)); have n5_ := Za ((by rw [hg]; exact (below_size (hb_16 HB.out)) : w.heap.size ≤ gb380)); have n6_ := Za ((by rw [hg]; exact Nat.ne_of_lt (blk_lt (g := gb368) (o := .cells #[.int .i64 a0_0, .int .i64 a0_1, .int .i64 a0_2, .int .i64 a0_3, .int .i64 a0_4, .int .i64 a0_5, .int .i64 a0_6] 55 (0, 0)) (bb_16 BK368.out)) : gb368 ≠ gb380)); have n7_ := Za ((by rw [hg]; exact Nat.ne_of_gt (blk_lt (g := gb368) (o := .cells #[.int .i64 a0_0, .int .i64 a0_1, .int .i64 a0_2, .int .i64 a0_3, .int .i64 a0_4, .int .i64 a0_5, .int .i64 a0_6] 55 (0, 0)) (bb_16 BK368.out)) : gb380 ≠ gb368)); have n8_ := Za ((by rw [hg]; exact Nat.ne_of_lt (blk_lt (g := gb369) (o := .cells #[.int .i64 a1_0, .int .i64 a1_1, .int .i64 a1_2, .int .i64 a1_3] 37 (0, 0)) (bb_16 BK369.out)) : gb369 ≠ gb380)); have n9_ := Za ((by rw [hg]; exact Nat.ne_of_gt (blk_lt (g := gb369) (o := .cells #[.int .i64 a1_0, .int .i64 a1_1, .int .i64 a1_2, .int .i64 a1_3] 37 (0, 0)) (bb_16 BK369.out)) : gb380 ≠ gb369)); clear BK368; clear BK369; clear HB; have BK368 := n0_; have BK369 := n1_; have HB := n2_; have BK380 := n3_; have GW380 := n4_; have GE380 := n5_; have NB368_380 := n6_; have NB380_368 := n7_; have NB369_380 := n8_; have NB380_369 := n9_; clear n0_ n1_ n2_ n3_ n4_ n5_ n6_ n7_ n8_ n9_; clear hb hbox hg; have hnb20 := NB380_368.out; have hnc20 := NB368_380.out; have hnb21 := NB380_369.out; have hnc21 := NB369_380.out; have hcz22_0 : w19.cell? ⟨gb380, 0, none⟩ = some (.int .i64 0) := (Xd BK380.out 0).trans rfl; have hcz22_1 : w19.cell? ⟨gb380, 1, none⟩ = some (.int .i64 0) := (Xd BK380.out 1).trans rfl; have hcz22_2 : w19.cell? ⟨gb380, 2, none⟩ = some (.int .i64 0) := (Xd BK380.out 2).trans rfl; have hcz22_3 : w19.cell? ⟨gb380, 3, none⟩ = some (.int .i64 0) := (Xd BK380.out 3).trans rfl; have hcz22_4 : w19.cell? ⟨gb380, 4, none⟩ = some (.int .i64 0) := (Xd BK380.out 4).trans rfl; have hcz22_5 : w19.cell? ⟨gb380, 5, none⟩ = some (.int .i64 0) := (Xd BK380.out 5).trans rfl; have hcz22_6 : w19.cell? ⟨gb380, 6, none⟩ = some (.int .i64 0) := (Xd BK380.out 6).trans rfl; have hfz22_0 := Xh BK380.out 0; have hfz22_1 := Xh BK380.out 1; have hfz22_2 := Xh BK380.out 2; have hfz22_3 := Xh BK380.out 3; have hfz22_4 := Xh BK380.out 4; have hfz22_5 := Xh BK380.out 5; have hfz22_6 := Xh BK380.out 6; have hcz23_0 : w19.cell? ⟨gb368, 0, none⟩ = some (.int .i64 a0_0) := (Xd BK368.out 0).trans rfl; have hcz23_1 : w19.cell? ⟨gb368, 1, none⟩ = some (.int .i64 a0_1) := (Xd BK368.out 1).trans rfl; have hcz23_2 : w19.cell? ⟨gb368, 2, none⟩ = some (.int .i64 a0_2) := (Xd BK368.out 2).trans rfl; have hcz23_3 : w19.cell? ⟨gb368, 3, none⟩ = some (.int .i64 a0_3) := (Xd BK368.out 3).trans rfl; have hcz23_4 : w19.cell? ⟨gb368, 4, none⟩ = some (.int .i64 a0_4) := (Xd BK368.out 4).trans rfl; have hcz23_5 : w19.cell? ⟨gb368, 5, none⟩ = some (.int .i64 a0_5) := (Xd BK368.out 5).trans rfl; have hcz23_6 : w19.cell? ⟨gb368, 6, none⟩ = some (.int .i64 a0_6) := (Xd BK368.out 6).trans rfl; have hfz23_0 := Xh BK368.out 0; have hfz23_1 := Xh BK368.out 1; have hfz23_2 := Xh BK368.out 2; have hfz23_3 := Xh BK368.out 3; have hfz23_4 := Xh BK368.out 4; have hfz23_5 := Xh BK368.out 5; have hfz23_6 := Xh BK368.out 6; have hcz24_0 : w19.cell? ⟨gb369, 0, none⟩ = some (.int .i64 a1_0) := (Xd BK369.out 0).trans rfl; have hcz24_1 : w19.cell? ⟨gb369, 1, none⟩ = some (.int .i64 a1_1) := (Xd BK369.out 1).trans rfl; have hcz24_2 : w19.cell? ⟨gb369, 2, none⟩ = some (.int .i64 a1_2) := (Xd BK369.out 2).trans rfl; have hcz24_3 : w19.cell? ⟨gb369, 3, none⟩ = some (.int .i64 a1_3) := (Xd BK369.out 3).trans rfl; have hfz24_0 := Xh BK369.out 0; have hfz24_1 := Xh BK369.out 1; have hfz24_2 := Xh BK369.out 2; have hfz24_3 := Xh BK369.out 3) | ((with_reducible refine gate_callee (f := 65) rfl ?_); refine goesL_ (some 23) rfl rfl Try.func65 (by kernel_rfl) rfl #[.agg #[.int .i64 a0_0, .int .i64 a0_1, .int .i64 a0_2, .int .i64 a0_3, .int .i64 a0_4, .int .i64 a0_5, .int .i64 a0_6], .agg #[.int .i64 a1_0, .int .i64 a1_1, .int .i64 a1_2, .int .i64 a1_3]] rfl (by (try simp only [List.map_toArray, List.map_cons, List.map_nil]); first | done | rfl | (simp only [List.length_drop, List.length_take]; rfl)) ?_; (with_reducible refine (gatherumref38_Keep.calls k a0_0 a0_1 a0_2 a0_3 a0_4 a0_5 a0_6 a1_0 a1_1 a1_2 a1_3 t381 t382 t383 t384 t385 t386 t387 t388 _ A8.out).mono ?_); rintro e w25 ⟨rfl, hb⟩; refine ⟨_, rfl, ?_⟩; have n0_ := Za (Xi (g := gb368) (o := .cells #[.int .i64 a0_0, .int .i64 a0_1, .int .i64 a0_2, .int .i64 a0_3, .int .i64 a0_4, .int .i64 a0_5, .int .i64 a0_6] 55 (0, 0)) (by (with_reducible repeat (first | refine Xf ?_ _ | refine Xe ?_ | refine Xg ?_ _)); refine Xj ?_ NB368_380.out _; (with_reducible repeat (first | refine Xf ?_ _ | refine Xe ?_ | refine Xg ?_ _)); refine Xj ?_ NB368_380.out _; (with_reducible repeat (first | refine Xf ?_ _ | refine Xe ?_ | refine Xg ?_ _)); refine Xj ?_ NB368_380.out _; (with_reducible repeat (first | refine Xf ?_ _ | refine Xe ?_ | refine Xg ?_ _)); refine Xj ?_ NB368_380.out _; (with_reducible repeat (first | refine Xf ?_ _ | refine Xe ?_ | refine Xg ?_ _)); refine Xj ?_ NB368_380.out _; (with_reducible repeat (first | refine Xf ?_ _ | refine Xe ?_ | refine Xg ?_ _)); refine Xj ?_ NB368_380.out _; (with_reducible repeat (first | refine Xf ?_ _ | refine Xe ?_ | refine Xg ?_ _)); refine Xj ?_ NB368_380.out _; (with_reducible repeat (first | refine Xf ?_ _ | refine Xe ?_ | refine Xg ?_ _)); exact BK368.out) hb); have n1_ := Za (Xi (g := gb369) (o := .cells #[.int .i64 a1_0, .int .i64 a1_1, .int .i64 a1_2, .int .i64 a1_3] 37 (0, 0)) (by (with_reducible repeat (first | refine Xf ?_ _ | refine Xe ?_ | refine Xg ?_ _)); refine Xj ?_ NB369_380.out _; (with_reducible repeat (first | refine Xf ?_ _ | refine Xe ?_ | refine Xg ?_ _)); refine Xj ?_ NB369_380.out _; (with_reducible repeat (first | refine Xf ?_ _ | refine Xe ?_ | refine Xg ?_ _)); refine Xj ?_ NB369_380.out _; (with_reducible repeat (first | refine Xf ?_ _ | refine Xe ?_ | refine Xg ?_ _)); refine Xj ?_ NB369_380.out _; (with_reducible repeat (first | refine Xf ?_ _ | refine Xe ?_ | refine Xg ?_ _)); refine Xj ?_ NB369_380.out _; (with_reducible repeat (first | refine Xf ?_ _ | refine Xe ?_ | refine Xg ?_ _)); refine Xj ?_ NB369_380.out _; (with_reducible repeat (first | refine Xf ?_ _ | refine Xe ?_ | refine Xg ?_ _)); refine Xj ?_ NB369_380.out _; (with_reducible repeat (first | refine Xf ?_ _ | refine Xe ?_ | refine Xg ?_ _)); exact BK369.out) hb); have n2_ := Za (Xi (g := gb380) (o := .cells #[.int .i64 t372, .int .i64 t373, .int .i64 t374, .int .i64 t375, .int .i64 t376, .int .i64 t377, .int .i64 t378] 55 (0, 0)) (by (with_reducible repeat (first | refine Xf ?_ _ | refine Xe ?_ | refine Xg ?_ _)); refine blk_put (cs := #[.int .i64 t372, .int .i64 t373, .int .i64 t374, .int .i64 t375, .int .i64 t376, .int .i64 t377, .int .i64 0]) ?_ 6 _ rfl; (with_reducible repeat (first | refine Xf ?_ _ | refine Xe ?_ | refine Xg ?_ _)); refine blk_put (cs := #[.int .i64 t372, .int .i64 t373, .int .i64 t374, .int .i64 t375, .int .i64 t376, .int .i64 0, .int .i64 0]) ?_ 5 _ rfl; (with_reducible repeat (first | refine Xf ?_ _ | refine Xe ?_ | refine Xg ?_ _)); refine blk_put (cs := #[.int .i64 t372, .int .i64 t373, .int .i64 t374, .int .i64 t375, .int .i64 0, .int .i64 0, .int .i64 0]) ?_ 4 _ rfl; (with_reducible repeat (first | refine Xf ?_ _ | refine Xe ?_ | refine Xg ?_ _)); refine blk_put (cs := #[.int .i64 t372, .int .i64 t373, .int .i64 t374, .int .i64 0, .int .i64 0, .int .i64 0, .int .i64 0]) ?_ 3 _ rfl; (with_reducible repeat (first | refine Xf ?_ _ | refine Xe ?_ | refine Xg ?_ _)); refine blk_put (cs := #[.int .i64 t372, .int .i64 t373, .int .i64 0, .int .i64 0, .int .i64 0, .int .i64 0, .int .i64 0]) ?_ 2 _ rfl; (with_reducible repeat (first | refine Xf ?_ _ | refine Xe ?_ | refine Xg ?_ _)); refine blk_put (cs := #[.int .i64 t372, .int .i64 0, .int .i64 0, .int .i64 0, .int .i64 0, .int .i64 0, .int .i64 0]) ?_ 1 _ rfl; (with_reducible repeat (first | refine Xf ?_ _ | refine Xe ?_ | refine Xg ?_ _)); refine blk_put (cs := #[.int .i64 0, .int .i64 0, .int .i64 0, .int .i64 0, .int .i64 0, .int .i64 0, .int .i64 0]) ?_ 0 _ rfl; (with_reducible repeat (first | refine Xf ?_ _ | refine Xe ?_ | refine Xg ?_ _)); exact BK380.out) hb); have n3_ := Za (below_step (hb_16 HB.out) hb); clear BK368; clear BK369; clear BK380; clear HB; have BK368 := n0_; have BK369 := n1_; have BK380 := n2_; have HB := n3_; clear n0_ n1_ n2_ n3_; (try clear hb); (try clear hb2); (try clear hk); (try clear hi)) | ((with_reducible refine gate_dst (N := 7) rfl ?_); refine box_event ?hg (N := 7) ?hd (cs := #[.int .i64 0, .int .i64 0, .int .i64 0, .int .i64 0, .int .i64 0, .int .i64 0, .int .i64 0]) (t := 55) ?hr ?_; (case hd => rfl); (case hg => rfl); (case hr => first | (go_simp; done) | (go_simp; rfl)); intro gb389 hg w26 hbox hb; have n0_ := Za (Xi (g := gb368) (o := .cells #[.int .i64 a0_0, .int .i64 a0_1, .int .i64 a0_2, .int .i64 a0_3, .int .i64 a0_4, .int .i64 a0_5, .int .i64 a0_6] 55 (0, 0)) (bb_16 BK368.out) hb); have n1_ := Za (Xi (g := gb369) (o := .cells #[.int .i64 a1_0, .int .i64 a1_1, .int .i64 a1_2, .int .i64 a1_3] 37 (0, 0)) (bb_16 BK369.out) hb); have n2_ := Za (Xi (g := gb380) (o := .cells #[.int .i64 t372, .int .i64 t373, .int .i64 t374, .int .i64 t375, .int .i64 t376, .int .i64 t377, .int .i64 t378] 55 (0, 0)) (bb_16 BK380.out) hb); have n3_ := Za (below_step (hb_16 HB.out) hb); have n4_ := Za (hbox); have n5_ := Za ((by rw [hg]; exact (below_size (hb_16 HB.out)) : w.heap.size ≤ gb389)); have n6_ := Za ((by rw [hg]; exact (below_size (hb_16 HB.out)) : w.heap.size ≤ gb389)); have n7_ := Za ((by rw [hg]; exact Nat.ne_of_lt (blk_lt (g := gb368) (o := .cells #[.int .i64 a0_0, .int .i64 a0_1, .int .i64 a0_2, .int .i64 a0_3, .int .i64 a0_4, .int .i64 a0_5, .int .i64 a0_6] 55 (0, 0)) (bb_16 BK368.out)) : gb368 ≠ gb389)); have n8_ := Za ((by rw [hg]; exact Nat.ne_of_gt (blk_lt (g := gb368) (o := .cells #[.int .i64 a0_0, .int .i64 a0_1, .int .i64 a0_2, .int .i64 a0_3, .int .i64 a0_4, .int .i64 a0_5, .int .i64 a0_6] 55 (0, 0)) (bb_16 BK368.out)) : gb389 ≠ gb368)); have n9_ := Za ((by rw [hg]; exact Nat.ne_of_lt (blk_lt (g := gb369) (o := .cells #[.int .i64 a1_0, .int .i64 a1_1, .int .i64 a1_2, .int .i64 a1_3] 37 (0, 0)) (bb_16 BK369.out)) : gb369 ≠ gb389)); have n10_ := Za ((by rw [hg]; exact Nat.ne_of_gt (blk_lt (g := gb369) (o := .cells #[.int .i64 a1_0, .int .i64 a1_1, .int .i64 a1_2, .int .i64 a1_3] 37 (0, 0)) (bb_16 BK369.out)) : gb389 ≠ gb369)); have n11_ := Za ((by rw [hg]; exact Nat.ne_of_lt (blk_lt (g := gb380) (o := .cells #[.int .i64 t372, .int .i64 t373, .int .i64 t374, .int .i64 t375, .int .i64 t376, .int .i64 t377, .int .i64 t378] 55 (0, 0)) (bb_16 BK380.out)) : gb380 ≠ gb389)); have n12_ := Za ((by rw [hg]; exact Nat.ne_of_gt (blk_lt (g := gb380) (o := .cells #[.int .i64 t372, .int .i64 t373, .int .i64 t374, .int .i64 t375, .int .i64 t376, .int .i64 t377, .int .i64 t378] 55 (0, 0)) (bb_16 BK380.out)) : gb389 ≠ gb380)); clear BK368; clear BK369; clear BK380; clear HB; have BK368 := n0_; have BK369 := n1_; have BK380 := n2_; have HB := n3_; have BK389 := n4_; have GW389 := n5_; have GE389 := n6_; have NB368_389 := n7_; have NB389_368 := n8_; have NB369_389 := n9_; have NB389_369 := n10_; have NB380_389 := n11_; have NB389_380 := n12_; clear n0_ n1_ n2_ n3_ n4_ n5_ n6_ n7_ n8_ n9_ n10_ n11_ n12_; clear hb hbox hg; have hnb27 := NB389_368.out; have hnc27 := NB368_389.out; have hnb28 := NB389_369.out; have hnc28 := NB369_389.out; have hnb29 := NB389_380.out; have hnc29 := NB380_389.out; have hcz30_0 : w26.cell? ⟨gb389, 0, none⟩ = some (.int .i64 0) := (Xd BK389.out 0).trans rfl; have hcz30_1 : w26.cell? ⟨gb389, 1, none⟩ = some (.int .i64 0) := (Xd BK389.out 1).trans rfl; have hcz30_2 : w26.cell? ⟨gb389, 2, none⟩ = some (.int .i64 0) := (Xd BK389.out 2).trans rfl; have hcz30_3 : w26.cell? ⟨gb389, 3, none⟩ = some (.int .i64 0) := (Xd BK389.out 3).trans rfl; have hcz30_4 : w26.cell? ⟨gb389, 4, none⟩ = some (.int .i64 0) := (Xd BK389.out 4).trans rfl; have hcz30_5 : w26.cell? ⟨gb389, 5, none⟩ = some (.int .i64 0) := (Xd BK389.out 5).trans rfl; have hcz30_6 : w26.cell? ⟨gb389, 6, none⟩ = some (.int .i64 0) := (Xd BK389.out 6).trans rfl; have hfz30_0 := Xh BK389.out 0; have hfz30_1 := Xh BK389.out 1; have hfz30_2 := Xh BK389.out 2; have hfz30_3 := Xh BK389.out 3; have hfz30_4 := Xh BK389.out 4; have hfz30_5 := Xh BK389.out 5; have hfz30_6 := Xh BK389.out 6))
   (try simp only [Act.put, Xa, Xb, Xc])
   go_cut [33] (fun v33 wc => ∃ (kq : Nat) (x33_8 : Bool), v33 = .bool x33_8 ∧ Aside0 (gatherumlaw38_LayerKeeps.j0 kq t379 x33_8 a0_0 a0_1 a0_2 a0_3 a0_4 a0_5 a0_6 a1_0 a1_1 a1_2 a1_3 t372 t373 t374 t375 t376 t377 t378 = some r) ∧ Aside0 (kq ≤ k) ∧ Aside0 (wc.heap[gb368]? = some (.cells #[.int .i64 a0_0, .int .i64 a0_1, .int .i64 a0_2, .int .i64 a0_3, .int .i64 a0_4, .int .i64 a0_5, .int .i64 a0_6] 55 (0, 0))) ∧ Aside0 (wc.heap[gb369]? = some (.cells #[.int .i64 a1_0, .int .i64 a1_1, .int .i64 a1_2, .int .i64 a1_3] 37 (0, 0))) ∧ Aside0 (wc.heap[gb380]? = some (.cells #[.int .i64 t372, .int .i64 t373, .int .i64 t374, .int .i64 t375, .int .i64 t376, .int .i64 t377, .int .i64 t378] 55 (0, 0))) ∧ Aside0 (wc.heap[gb389]? = some (.cells #[.int .i64 t381, .int .i64 t382, .int .i64 t383, .int .i64 t384, .int .i64 t385, .int .i64 t386, .int .i64 t387] 55 (0, 0))) ∧ Aside0 (Below w.heap.size w wc))
   case first =>
    have H := HC9.out
    clear HC9
    by_cases c31 : ((!(t372 == t381) || (!(t373 == t382) || (!(t374 == t383) || (!(t375 == t384))))) || ((!(t376 == t385) || (!(t377 == t386) || (!(t378 == t387)))))) = Zt
    ·rw [if_pos c31] at H
     have c31b0 : ((!(t372 == t381) || (!(t373 == t382) || (!(t374 == t383) || (!(t375 == t384))))) || ((!(t376 == t385) || (!(t377 == t386) || (!(t378 == t387)))))) = Zt := c31
     clear c31
     (first | rw [c31b0] | (simp only [i64_w, i32_w]; rw [c31b0]) | skip)
     have H' := Za H
     clear H
     have hnb32 := NB380_368.out
     have hnc32 := NB368_380.out
     have hnb33 := NB380_369.out
     have hnc33 := NB369_380.out
     have hnb34 := NB380_389.out
     have hnc34 := NB389_380.out
     have hcz35_0 : w26.cell? ⟨gb380, 0, none⟩ = some (.int .i64 t372) := (Xd BK380.out 0).trans rfl
     have hcz35_1 : w26.cell? ⟨gb380, 1, none⟩ = some (.int .i64 t373) := (Xd BK380.out 1).trans rfl
     have hcz35_2 : w26.cell? ⟨gb380, 2, none⟩ = some (.int .i64 t374) := (Xd BK380.out 2).trans rfl
     have hcz35_3 : w26.cell? ⟨gb380, 3, none⟩ = some (.int .i64 t375) := (Xd BK380.out 3).trans rfl
     have hcz35_4 : w26.cell? ⟨gb380, 4, none⟩ = some (.int .i64 t376) := (Xd BK380.out 4).trans rfl
     have hcz35_5 : w26.cell? ⟨gb380, 5, none⟩ = some (.int .i64 t377) := (Xd BK380.out 5).trans rfl
     have hcz35_6 : w26.cell? ⟨gb380, 6, none⟩ = some (.int .i64 t378) := (Xd BK380.out 6).trans rfl
     have hfz35_0 := Xh BK380.out 0
     have hfz35_1 := Xh BK380.out 1
     have hfz35_2 := Xh BK380.out 2
     have hfz35_3 := Xh BK380.out 3
     have hfz35_4 := Xh BK380.out 4
     have hfz35_5 := Xh BK380.out 5
     have hfz35_6 := Xh BK380.out 6
     have hnb36 := NB389_368.out
     have hnc36 := NB368_389.out
     have hnb37 := NB389_369.out
     have hnc37 := NB369_389.out
     have hcz38_0 : w26.cell? ⟨gb389, 0, none⟩ = some (.int .i64 0) := (Xd BK389.out 0).trans rfl
     have hcz38_1 : w26.cell? ⟨gb389, 1, none⟩ = some (.int .i64 0) := (Xd BK389.out 1).trans rfl
     have hcz38_2 : w26.cell? ⟨gb389, 2, none⟩ = some (.int .i64 0) := (Xd BK389.out 2).trans rfl
     have hcz38_3 : w26.cell? ⟨gb389, 3, none⟩ = some (.int .i64 0) := (Xd BK389.out 3).trans rfl
     have hcz38_4 : w26.cell? ⟨gb389, 4, none⟩ = some (.int .i64 0) := (Xd BK389.out 4).trans rfl
     have hcz38_5 : w26.cell? ⟨gb389, 5, none⟩ = some (.int .i64 0) := (Xd BK389.out 5).trans rfl
     have hcz38_6 : w26.cell? ⟨gb389, 6, none⟩ = some (.int .i64 0) := (Xd BK389.out 6).trans rfl
     have hfz38_0 := Xh BK389.out 0
     have hfz38_1 := Xh BK389.out 1
     have hfz38_2 := Xh BK389.out 2
     have hfz38_3 := Xh BK389.out 3
     have hfz38_4 := Xh BK389.out 4
     have hfz38_5 := Xh BK389.out 5
     have hfz38_6 := Xh BK389.out 6
     go_wp2
     go_meet
     case rel => exact ⟨_, (Zt), (by first | rfl | (simp; done) | (simp [*]; done)), H', ⟨by first | omega | exact Nat.le_refl _⟩, ⟨by (with_reducible repeat (first | refine Xf ?_ _ | refine Xe ?_ | refine Xg ?_ _)); refine Xj ?_ NB368_389.out _; (with_reducible repeat (first | refine Xf ?_ _ | refine Xe ?_ | refine Xg ?_ _)); refine Xj ?_ NB368_389.out _; (with_reducible repeat (first | refine Xf ?_ _ | refine Xe ?_ | refine Xg ?_ _)); refine Xj ?_ NB368_389.out _; (with_reducible repeat (first | refine Xf ?_ _ | refine Xe ?_ | refine Xg ?_ _)); refine Xj ?_ NB368_389.out _; (with_reducible repeat (first | refine Xf ?_ _ | refine Xe ?_ | refine Xg ?_ _)); refine Xj ?_ NB368_389.out _; (with_reducible repeat (first | refine Xf ?_ _ | refine Xe ?_ | refine Xg ?_ _)); refine Xj ?_ NB368_389.out _; (with_reducible repeat (first | refine Xf ?_ _ | refine Xe ?_ | refine Xg ?_ _)); refine Xj ?_ NB368_389.out _; (with_reducible repeat (first | refine Xf ?_ _ | refine Xe ?_ | refine Xg ?_ _)); exact BK368.out⟩, ⟨by (with_reducible repeat (first | refine Xf ?_ _ | refine Xe ?_ | refine Xg ?_ _)); refine Xj ?_ NB369_389.out _; (with_reducible repeat (first | refine Xf ?_ _ | refine Xe ?_ | refine Xg ?_ _)); refine Xj ?_ NB369_389.out _; (with_reducible repeat (first | refine Xf ?_ _ | refine Xe ?_ | refine Xg ?_ _)); refine Xj ?_ NB369_389.out _; (with_reducible repeat (first | refine Xf ?_ _ | refine Xe ?_ | refine Xg ?_ _)); refine Xj ?_ NB369_389.out _; (with_reducible repeat (first | refine Xf ?_ _ | refine Xe ?_ | refine Xg ?_ _)); refine Xj ?_ NB369_389.out _; (with_reducible repeat (first | refine Xf ?_ _ | refine Xe ?_ | refine Xg ?_ _)); refine Xj ?_ NB369_389.out _; (with_reducible repeat (first | refine Xf ?_ _ | refine Xe ?_ | refine Xg ?_ _)); refine Xj ?_ NB369_389.out _; (with_reducible repeat (first | refine Xf ?_ _ | refine Xe ?_ | refine Xg ?_ _)); exact BK369.out⟩, ⟨by (with_reducible repeat (first | refine Xf ?_ _ | refine Xe ?_ | refine Xg ?_ _)); refine Xj ?_ NB380_389.out _; (with_reducible repeat (first | refine Xf ?_ _ | refine Xe ?_ | refine Xg ?_ _)); refine Xj ?_ NB380_389.out _; (with_reducible repeat (first | refine Xf ?_ _ | refine Xe ?_ | refine Xg ?_ _)); refine Xj ?_ NB380_389.out _; (with_reducible repeat (first | refine Xf ?_ _ | refine Xe ?_ | refine Xg ?_ _)); refine Xj ?_ NB380_389.out _; (with_reducible repeat (first | refine Xf ?_ _ | refine Xe ?_ | refine Xg ?_ _)); refine Xj ?_ NB380_389.out _; (with_reducible repeat (first | refine Xf ?_ _ | refine Xe ?_ | refine Xg ?_ _)); refine Xj ?_ NB380_389.out _; (with_reducible repeat (first | refine Xf ?_ _ | refine Xe ?_ | refine Xg ?_ _)); refine Xj ?_ NB380_389.out _; (with_reducible repeat (first | refine Xf ?_ _ | refine Xe ?_ | refine Xg ?_ _)); exact BK380.out⟩, ⟨by (with_reducible repeat (first | refine Xf ?_ _ | refine Xe ?_ | refine Xg ?_ _)); refine blk_put (cs := #[.int .i64 t381, .int .i64 t382, .int .i64 t383, .int .i64 t384, .int .i64 t385, .int .i64 t386, .int .i64 0]) ?_ 6 _ rfl; (with_reducible repeat (first | refine Xf ?_ _ | refine Xe ?_ | refine Xg ?_ _)); refine blk_put (cs := #[.int .i64 t381, .int .i64 t382, .int .i64 t383, .int .i64 t384, .int .i64 t385, .int .i64 0, .int .i64 0]) ?_ 5 _ rfl; (with_reducible repeat (first | refine Xf ?_ _ | refine Xe ?_ | refine Xg ?_ _)); refine blk_put (cs := #[.int .i64 t381, .int .i64 t382, .int .i64 t383, .int .i64 t384, .int .i64 0, .int .i64 0, .int .i64 0]) ?_ 4 _ rfl; (with_reducible repeat (first | refine Xf ?_ _ | refine Xe ?_ | refine Xg ?_ _)); refine blk_put (cs := #[.int .i64 t381, .int .i64 t382, .int .i64 t383, .int .i64 0, .int .i64 0, .int .i64 0, .int .i64 0]) ?_ 3 _ rfl; (with_reducible repeat (first | refine Xf ?_ _ | refine Xe ?_ | refine Xg ?_ _)); refine blk_put (cs := #[.int .i64 t381, .int .i64 t382, .int .i64 0, .int .i64 0, .int .i64 0, .int .i64 0, .int .i64 0]) ?_ 2 _ rfl; (with_reducible repeat (first | refine Xf ?_ _ | refine Xe ?_ | refine Xg ?_ _)); refine blk_put (cs := #[.int .i64 t381, .int .i64 0, .int .i64 0, .int .i64 0, .int .i64 0, .int .i64 0, .int .i64 0]) ?_ 1 _ rfl; (with_reducible repeat (first | refine Xf ?_ _ | refine Xe ?_ | refine Xg ?_ _)); refine blk_put (cs := #[.int .i64 0, .int .i64 0, .int .i64 0, .int .i64 0, .int .i64 0, .int .i64 0, .int .i64 0]) ?_ 0 _ rfl; (with_reducible repeat (first | refine Xf ?_ _ | refine Xe ?_ | refine Xg ?_ _)); exact BK389.out⟩, ⟨by repeat (first | (with_reducible first | exact HB.out | apply below_alloc | apply pw_below_drewN | apply below_drew1 | refine below_set ?_ GE368.out | refine below_set ?_ GE369.out | refine below_set ?_ GE380.out | refine below_set ?_ GE389.out) | exact HB.out)⟩⟩
    ·rw [if_neg c31] at H
     have c31b0 : ((!(t372 == t381) || (!(t373 == t382) || (!(t374 == t383) || (!(t375 == t384))))) || ((!(t376 == t385) || (!(t377 == t386) || (!(t378 == t387)))))) = Zf := by simpa using c31
     clear c31
     (first | rw [c31b0] | (simp only [i64_w, i32_w]; rw [c31b0]) | skip)
     have H' := Za H
     clear H
     have hnb39 := NB380_368.out
     have hnc39 := NB368_380.out
     have hnb40 := NB380_369.out
     have hnc40 := NB369_380.out
     have hnb41 := NB380_389.out
     have hnc41 := NB389_380.out
     have hcz42_0 : w26.cell? ⟨gb380, 0, none⟩ = some (.int .i64 t372) := (Xd BK380.out 0).trans rfl
     have hcz42_1 : w26.cell? ⟨gb380, 1, none⟩ = some (.int .i64 t373) := (Xd BK380.out 1).trans rfl
     have hcz42_2 : w26.cell? ⟨gb380, 2, none⟩ = some (.int .i64 t374) := (Xd BK380.out 2).trans rfl
     have hcz42_3 : w26.cell? ⟨gb380, 3, none⟩ = some (.int .i64 t375) := (Xd BK380.out 3).trans rfl
     have hcz42_4 : w26.cell? ⟨gb380, 4, none⟩ = some (.int .i64 t376) := (Xd BK380.out 4).trans rfl
     have hcz42_5 : w26.cell? ⟨gb380, 5, none⟩ = some (.int .i64 t377) := (Xd BK380.out 5).trans rfl
     have hcz42_6 : w26.cell? ⟨gb380, 6, none⟩ = some (.int .i64 t378) := (Xd BK380.out 6).trans rfl
     have hfz42_0 := Xh BK380.out 0
     have hfz42_1 := Xh BK380.out 1
     have hfz42_2 := Xh BK380.out 2
     have hfz42_3 := Xh BK380.out 3
     have hfz42_4 := Xh BK380.out 4
     have hfz42_5 := Xh BK380.out 5
     have hfz42_6 := Xh BK380.out 6
     have hnb43 := NB389_368.out
     have hnc43 := NB368_389.out
     have hnb44 := NB389_369.out
     have hnc44 := NB369_389.out
     have hcz45_0 : w26.cell? ⟨gb389, 0, none⟩ = some (.int .i64 0) := (Xd BK389.out 0).trans rfl
     have hcz45_1 : w26.cell? ⟨gb389, 1, none⟩ = some (.int .i64 0) := (Xd BK389.out 1).trans rfl
     have hcz45_2 : w26.cell? ⟨gb389, 2, none⟩ = some (.int .i64 0) := (Xd BK389.out 2).trans rfl
     have hcz45_3 : w26.cell? ⟨gb389, 3, none⟩ = some (.int .i64 0) := (Xd BK389.out 3).trans rfl
     have hcz45_4 : w26.cell? ⟨gb389, 4, none⟩ = some (.int .i64 0) := (Xd BK389.out 4).trans rfl
     have hcz45_5 : w26.cell? ⟨gb389, 5, none⟩ = some (.int .i64 0) := (Xd BK389.out 5).trans rfl
     have hcz45_6 : w26.cell? ⟨gb389, 6, none⟩ = some (.int .i64 0) := (Xd BK389.out 6).trans rfl
     have hfz45_0 := Xh BK389.out 0
     have hfz45_1 := Xh BK389.out 1
     have hfz45_2 := Xh BK389.out 2
     have hfz45_3 := Xh BK389.out 3
     have hfz45_4 := Xh BK389.out 4
     have hfz45_5 := Xh BK389.out 5
     have hfz45_6 := Xh BK389.out 6
     go_wp2
     go_meet
     case rel => exact ⟨_, ((t379 != t388)), (by first | rfl | (simp; done) | (simp [*]; done)), H', ⟨by first | omega | exact Nat.le_refl _⟩, ⟨by (with_reducible repeat (first | refine Xf ?_ _ | refine Xe ?_ | refine Xg ?_ _)); refine Xj ?_ NB368_389.out _; (with_reducible repeat (first | refine Xf ?_ _ | refine Xe ?_ | refine Xg ?_ _)); refine Xj ?_ NB368_389.out _; (with_reducible repeat (first | refine Xf ?_ _ | refine Xe ?_ | refine Xg ?_ _)); refine Xj ?_ NB368_389.out _; (with_reducible repeat (first | refine Xf ?_ _ | refine Xe ?_ | refine Xg ?_ _)); refine Xj ?_ NB368_389.out _; (with_reducible repeat (first | refine Xf ?_ _ | refine Xe ?_ | refine Xg ?_ _)); refine Xj ?_ NB368_389.out _; (with_reducible repeat (first | refine Xf ?_ _ | refine Xe ?_ | refine Xg ?_ _)); refine Xj ?_ NB368_389.out _; (with_reducible repeat (first | refine Xf ?_ _ | refine Xe ?_ | refine Xg ?_ _)); refine Xj ?_ NB368_389.out _; (with_reducible repeat (first | refine Xf ?_ _ | refine Xe ?_ | refine Xg ?_ _)); exact BK368.out⟩, ⟨by (with_reducible repeat (first | refine Xf ?_ _ | refine Xe ?_ | refine Xg ?_ _)); refine Xj ?_ NB369_389.out _; (with_reducible repeat (first | refine Xf ?_ _ | refine Xe ?_ | refine Xg ?_ _)); refine Xj ?_ NB369_389.out _; (with_reducible repeat (first | refine Xf ?_ _ | refine Xe ?_ | refine Xg ?_ _)); refine Xj ?_ NB369_389.out _; (with_reducible repeat (first | refine Xf ?_ _ | refine Xe ?_ | refine Xg ?_ _)); refine Xj ?_ NB369_389.out _; (with_reducible repeat (first | refine Xf ?_ _ | refine Xe ?_ | refine Xg ?_ _)); refine Xj ?_ NB369_389.out _; (with_reducible repeat (first | refine Xf ?_ _ | refine Xe ?_ | refine Xg ?_ _)); refine Xj ?_ NB369_389.out _; (with_reducible repeat (first | refine Xf ?_ _ | refine Xe ?_ | refine Xg ?_ _)); refine Xj ?_ NB369_389.out _; (with_reducible repeat (first | refine Xf ?_ _ | refine Xe ?_ | refine Xg ?_ _)); exact BK369.out⟩, ⟨by (with_reducible repeat (first | refine Xf ?_ _ | refine Xe ?_ | refine Xg ?_ _)); refine Xj ?_ NB380_389.out _; (with_reducible repeat (first | refine Xf ?_ _ | refine Xe ?_ | refine Xg ?_ _)); refine Xj ?_ NB380_389.out _; (with_reducible repeat (first | refine Xf ?_ _ | refine Xe ?_ | refine Xg ?_ _)); refine Xj ?_ NB380_389.out _; (with_reducible repeat (first | refine Xf ?_ _ | refine Xe ?_ | refine Xg ?_ _)); refine Xj ?_ NB380_389.out _; (with_reducible repeat (first | refine Xf ?_ _ | refine Xe ?_ | refine Xg ?_ _)); refine Xj ?_ NB380_389.out _; (with_reducible repeat (first | refine Xf ?_ _ | refine Xe ?_ | refine Xg ?_ _)); refine Xj ?_ NB380_389.out _; (with_reducible repeat (first | refine Xf ?_ _ | refine Xe ?_ | refine Xg ?_ _)); refine Xj ?_ NB380_389.out _; (with_reducible repeat (first | refine Xf ?_ _ | refine Xe ?_ | refine Xg ?_ _)); exact BK380.out⟩, ⟨by (with_reducible repeat (first | refine Xf ?_ _ | refine Xe ?_ | refine Xg ?_ _)); refine blk_put (cs := #[.int .i64 t381, .int .i64 t382, .int .i64 t383, .int .i64 t384, .int .i64 t385, .int .i64 t386, .int .i64 0]) ?_ 6 _ rfl; (with_reducible repeat (first | refine Xf ?_ _ | refine Xe ?_ | refine Xg ?_ _)); refine blk_put (cs := #[.int .i64 t381, .int .i64 t382, .int .i64 t383, .int .i64 t384, .int .i64 t385, .int .i64 0, .int .i64 0]) ?_ 5 _ rfl; (with_reducible repeat (first | refine Xf ?_ _ | refine Xe ?_ | refine Xg ?_ _)); refine blk_put (cs := #[.int .i64 t381, .int .i64 t382, .int .i64 t383, .int .i64 t384, .int .i64 0, .int .i64 0, .int .i64 0]) ?_ 4 _ rfl; (with_reducible repeat (first | refine Xf ?_ _ | refine Xe ?_ | refine Xg ?_ _)); refine blk_put (cs := #[.int .i64 t381, .int .i64 t382, .int .i64 t383, .int .i64 0, .int .i64 0, .int .i64 0, .int .i64 0]) ?_ 3 _ rfl; (with_reducible repeat (first | refine Xf ?_ _ | refine Xe ?_ | refine Xg ?_ _)); refine blk_put (cs := #[.int .i64 t381, .int .i64 t382, .int .i64 0, .int .i64 0, .int .i64 0, .int .i64 0, .int .i64 0]) ?_ 2 _ rfl; (with_reducible repeat (first | refine Xf ?_ _ | refine Xe ?_ | refine Xg ?_ _)); refine blk_put (cs := #[.int .i64 t381, .int .i64 0, .int .i64 0, .int .i64 0, .int .i64 0, .int .i64 0, .int .i64 0]) ?_ 1 _ rfl; (with_reducible repeat (first | refine Xf ?_ _ | refine Xe ?_ | refine Xg ?_ _)); refine blk_put (cs := #[.int .i64 0, .int .i64 0, .int .i64 0, .int .i64 0, .int .i64 0, .int .i64 0, .int .i64 0]) ?_ 0 _ rfl; (with_reducible repeat (first | refine Xf ?_ _ | refine Xe ?_ | refine Xg ?_ _)); exact BK389.out⟩, ⟨by repeat (first | (with_reducible first | exact HB.out | apply below_alloc | apply pw_below_drewN | apply below_drew1 | refine below_set ?_ GE368.out | refine below_set ?_ GE369.out | refine below_set ?_ GE380.out | refine below_set ?_ GE389.out) | exact HB.out)⟩⟩
   case rest =>
    clear HC9
    try clear c1
    try clear c2
    try clear p2
    try clear c3
    try clear c4
    try clear c6
    try clear c13
    try clear c14
    try clear c20
    try clear c21
    try clear c27
    try clear c28
    try clear c29
    try clear c31
    try clear c31b0
    try clear c32
    try clear c33
    try clear c34
    try clear c36
    try clear c37
    try clear c39
    try clear c40
    try clear c41
    try clear c43
    try clear c44
    try clear hcz14_0
    try clear hcz14_1
    try clear hcz14_2
    try clear hcz14_3
    try clear hcz14_4
    try clear hcz14_5
    try clear hcz14_6
    try clear hcz16_0
    try clear hcz16_1
    try clear hcz16_2
    try clear hcz16_3
    try clear hcz16_4
    try clear hcz16_5
    try clear hcz16_6
    try clear hcz17_0
    try clear hcz17_1
    try clear hcz17_2
    try clear hcz17_3
    try clear hcz22_0
    try clear hcz22_1
    try clear hcz22_2
    try clear hcz22_3
    try clear hcz22_4
    try clear hcz22_5
    try clear hcz22_6
    try clear hcz23_0
    try clear hcz23_1
    try clear hcz23_2
    try clear hcz23_3
    try clear hcz23_4
    try clear hcz23_5
    try clear hcz23_6
    try clear hcz24_0
    try clear hcz24_1
    try clear hcz24_2
    try clear hcz24_3
    try clear hcz30_0
    try clear hcz30_1
    try clear hcz30_2
    try clear hcz30_3
    try clear hcz30_4
    try clear hcz30_5
    try clear hcz30_6
    try clear hcz35_0
    try clear hcz35_1
    try clear hcz35_2
    try clear hcz35_3
    try clear hcz35_4
    try clear hcz35_5
    try clear hcz35_6
    try clear hcz38_0
    try clear hcz38_1
    try clear hcz38_2
    try clear hcz38_3
    try clear hcz38_4
    try clear hcz38_5
    try clear hcz38_6
    try clear hcz42_0
    try clear hcz42_1
    try clear hcz42_2
    try clear hcz42_3
    try clear hcz42_4
    try clear hcz42_5
    try clear hcz42_6
    try clear hcz45_0
    try clear hcz45_1
    try clear hcz45_2
    try clear hcz45_3
    try clear hcz45_4
    try clear hcz45_5
    try clear hcz45_6
    try clear hfz14_0
    try clear hfz14_1
    try clear hfz14_2
    try clear hfz14_3
    try clear hfz14_4
    try clear hfz14_5
    try clear hfz14_6
    try clear hfz16_0
    try clear hfz16_1
    try clear hfz16_2
    try clear hfz16_3
    try clear hfz16_4
    try clear hfz16_5
    try clear hfz16_6
    try clear hfz17_0
    try clear hfz17_1
    try clear hfz17_2
    try clear hfz17_3
    try clear hfz22_0
    try clear hfz22_1
    try clear hfz22_2
    try clear hfz22_3
    try clear hfz22_4
    try clear hfz22_5
    try clear hfz22_6
    try clear hfz23_0
    try clear hfz23_1
    try clear hfz23_2
    try clear hfz23_3
    try clear hfz23_4
    try clear hfz23_5
    try clear hfz23_6
    try clear hfz24_0
    try clear hfz24_1
    try clear hfz24_2
    try clear hfz24_3
    try clear hfz30_0
    try clear hfz30_1
    try clear hfz30_2
    try clear hfz30_3
    try clear hfz30_4
    try clear hfz30_5
    try clear hfz30_6
    try clear hfz35_0
    try clear hfz35_1
    try clear hfz35_2
    try clear hfz35_3
    try clear hfz35_4
    try clear hfz35_5
    try clear hfz35_6
    try clear hfz38_0
    try clear hfz38_1
    try clear hfz38_2
    try clear hfz38_3
    try clear hfz38_4
    try clear hfz38_5
    try clear hfz38_6
    try clear hfz42_0
    try clear hfz42_1
    try clear hfz42_2
    try clear hfz42_3
    try clear hfz42_4
    try clear hfz42_5
    try clear hfz42_6
    try clear hfz45_0
    try clear hfz45_1
    try clear hfz45_2
    try clear hfz45_3
    try clear hfz45_4
    try clear hfz45_5
    try clear hfz45_6
    obtain ⟨kq, x33_8, rfl, HA, HJ8, BK368, BK369, BK380, BK389, HB⟩ := hcut
    cases kq with
    | zero => exact absurd HA.out (by simp [gatherumlaw38_LayerKeeps.j0])
    | succ kj8 =>
     have H := HA.out
     clear HA
     simp only [gatherumlaw38_LayerKeeps.j0] at H
     by_cases c46 : x33_8 = Zt
     ·subst c46
      have H1 : (some Zf) = some r := by rw [if_pos rfl] at H; exact H
      clear H
      have H := H1
      clear H1
      obtain rfl := Option.some.inj H
      go_wp2
      go_ret
      exact ⟨by first | rfl | (simp [errW_none, errW_some] <;> rfl) | (simp [*, errW_none, errW_some] <;> rfl), by repeat (first | (with_reducible first | exact HB.out | apply below_alloc | apply pw_below_drewN | apply below_drew1 | refine below_set ?_ GE368.out | refine below_set ?_ GE369.out | refine below_set ?_ GE380.out | refine below_set ?_ GE389.out) | exact HB.out)⟩
     ·replace c46 := Bool.eq_false_iff.mpr c46
      subst c46
      have H1 : (if t379 = Zt then ((gatherumref38_Lies.f kj8 t372 t373 t374 t375 t376 t377 t378).bind fun bt390 => ((gatherumref38_Lies.f kj8 a0_0 a0_1 a0_2 a0_3 a0_4 a0_5 a0_6).bind fun bt394 => ((gatherumref04_Meet.f bt394.1 bt394.2.1 bt394.2.2.1 bt394.2.2.2 a1_0 a1_1 a1_2 a1_3).bind fun bt398 => (if (bt390.1 == bt398.1 && (bt390.2.1 == bt398.2.1 && (bt390.2.2.1 == bt398.2.2.1 && (bt390.2.2.2 == bt398.2.2.2)))) = Zt then ((gatherumref04_Within.f t372 t373 t374 t375 a0_0 a0_1 a0_2 a0_3).bind fun t402 => (some t402)) else (some Zf))))) else (some Zt)) = some r := by rw [if_neg (show ¬ (Zf = Zt) by decide)] at H; exact H
      clear H
      have H := H1
      clear H1
      by_cases c47 : t379 = Zt
      ·subst c47
       have H1 : ((gatherumref38_Lies.f kj8 t372 t373 t374 t375 t376 t377 t378).bind fun bt390 => ((gatherumref38_Lies.f kj8 a0_0 a0_1 a0_2 a0_3 a0_4 a0_5 a0_6).bind fun bt394 => ((gatherumref04_Meet.f bt394.1 bt394.2.1 bt394.2.2.1 bt394.2.2.2 a1_0 a1_1 a1_2 a1_3).bind fun bt398 => (if (bt390.1 == bt398.1 && (bt390.2.1 == bt398.2.1 && (bt390.2.2.1 == bt398.2.2.1 && (bt390.2.2.2 == bt398.2.2.2)))) = Zt then ((gatherumref04_Within.f t372 t373 t374 t375 a0_0 a0_1 a0_2 a0_3).bind fun t402 => (some t402)) else (some Zf))))) = some r := by rw [if_pos rfl] at H; exact H
       clear H
       have H := H1
       clear H1
       replace H := Option.bind_eq_some_iff.mp H
       obtain ⟨⟨t390, t391, t392, t393⟩, A480, H⟩ := H
       replace H : ((gatherumref38_Lies.f kj8 a0_0 a0_1 a0_2 a0_3 a0_4 a0_5 a0_6).bind fun bt394 => ((gatherumref04_Meet.f bt394.1 bt394.2.1 bt394.2.2.1 bt394.2.2.2 a1_0 a1_1 a1_2 a1_3).bind fun bt398 => (if (t390 == bt398.1 && (t391 == bt398.2.1 && (t392 == bt398.2.2.1 && (t393 == bt398.2.2.2)))) = Zt then ((gatherumref04_Within.f t372 t373 t374 t375 a0_0 a0_1 a0_2 a0_3).bind fun t402 => (some t402)) else (some Zf)))) = some r := H
       have A48 := Za A480
       clear A480
       replace H := Option.bind_eq_some_iff.mp H
       obtain ⟨⟨t394, t395, t396, t397⟩, A490, H⟩ := H
       replace H : ((gatherumref04_Meet.f t394 t395 t396 t397 a1_0 a1_1 a1_2 a1_3).bind fun bt398 => (if (t390 == bt398.1 && (t391 == bt398.2.1 && (t392 == bt398.2.2.1 && (t393 == bt398.2.2.2)))) = Zt then ((gatherumref04_Within.f t372 t373 t374 t375 a0_0 a0_1 a0_2 a0_3).bind fun t402 => (some t402)) else (some Zf))) = some r := H
       have A49 := Za A490
       clear A490
       replace H := Option.bind_eq_some_iff.mp H
       obtain ⟨⟨t398, t399, t400, t401⟩, A500, H⟩ := H
       replace H : (if (t390 == t398 && (t391 == t399 && (t392 == t400 && (t393 == t401)))) = Zt then ((gatherumref04_Within.f t372 t373 t374 t375 a0_0 a0_1 a0_2 a0_3).bind fun t402 => (some t402)) else (some Zf)) = some r := H
       have A50 := Za A500
       clear A500
       by_cases c51 : (t390 == t398 && (t391 == t399 && (t392 == t400 && (t393 == t401)))) = Zt
       ·rw [if_pos c51] at H
        have c51b0 : (t390 == t398 && (t391 == t399 && (t392 == t400 && (t393 == t401)))) = Zt := c51
        (try (have c51b1 : decide (t390 = t398 && (t391 == t399 && (t392 == t400 && (t393 == t401)))) = Zt := by simpa using c51))
        (try (have c51b2 : (t390 == t398 && (t391 == t399 && (t392 == t400 && (t393 == t401)))) = Zt := by simpa using c51))
        clear c51
        replace H := Option.bind_eq_some_iff.mp H
        obtain ⟨t402, A520, H⟩ := H
        replace H : (some t402) = some r := H
        have A52 := Za A520
        clear A520
        obtain rfl := Option.some.inj H
        try go_wp2
        have n0_ := Za (Xe BK368.out)
        have n1_ := Za (Xe BK369.out)
        have n2_ := Za (Xe BK380.out)
        have n3_ := Za (Xe BK389.out)
        have n4_ := Za (below_drew1 HB.out)
        clear BK368
        clear BK369
        clear BK380
        clear BK389
        clear HB
        have BK368 := n0_
        have BK369 := n1_
        have BK380 := n2_
        have BK389 := n3_
        have HB := n4_
        clear n0_ n1_ n2_ n3_ n4_
        refine start_ (n := 19) (S := fun w' => w'.cell? ⟨gb380, 0, none⟩ = some (.int .i64 t372) ∧ w'.cell? ⟨gb380, 1, none⟩ = some (.int .i64 t373) ∧ w'.cell? ⟨gb380, 2, none⟩ = some (.int .i64 t374) ∧ w'.cell? ⟨gb380, 3, none⟩ = some (.int .i64 t375) ∧ w'.cell? ⟨gb380, 4, none⟩ = some (.int .i64 t376) ∧ w'.cell? ⟨gb380, 5, none⟩ = some (.int .i64 t377) ∧ w'.cell? ⟨gb380, 6, none⟩ = some (.int .i64 t378) ∧ w'.cell? ⟨gb368, 0, none⟩ = some (.int .i64 a0_0) ∧ w'.cell? ⟨gb368, 1, none⟩ = some (.int .i64 a0_1) ∧ w'.cell? ⟨gb368, 2, none⟩ = some (.int .i64 a0_2) ∧ w'.cell? ⟨gb368, 3, none⟩ = some (.int .i64 a0_3) ∧ w'.cell? ⟨gb368, 4, none⟩ = some (.int .i64 a0_4) ∧ w'.cell? ⟨gb368, 5, none⟩ = some (.int .i64 a0_5) ∧ w'.cell? ⟨gb368, 6, none⟩ = some (.int .i64 a0_6) ∧ w'.cell? ⟨gb369, 0, none⟩ = some (.int .i64 a1_0) ∧ w'.cell? ⟨gb369, 1, none⟩ = some (.int .i64 a1_1) ∧ w'.cell? ⟨gb369, 2, none⟩ = some (.int .i64 a1_2) ∧ w'.cell? ⟨gb369, 3, none⟩ = some (.int .i64 a1_3)) (ds := []) #[Zf,Zf,Zf,Zf,Zf,Zf,Zf,Zf,Zf,Zf,Zf,Zf,Zf,Zf,Zf,Zf,Zf,Zf,Zf] (by kernel_rfl) rfl rfl ⟨(Xd BK380.out 0).trans rfl, (Xd BK380.out 1).trans rfl, (Xd BK380.out 2).trans rfl, (Xd BK380.out 3).trans rfl, (Xd BK380.out 4).trans rfl, (Xd BK380.out 5).trans rfl, (Xd BK380.out 6).trans rfl, (Xd BK368.out 0).trans rfl, (Xd BK368.out 1).trans rfl, (Xd BK368.out 2).trans rfl, (Xd BK368.out 3).trans rfl, (Xd BK368.out 4).trans rfl, (Xd BK368.out 5).trans rfl, (Xd BK368.out 6).trans rfl, (Xd BK369.out 0).trans rfl, (Xd BK369.out 1).trans rfl, (Xd BK369.out 2).trans rfl, (Xd BK369.out 3).trans rfl⟩ (fun hHeld => ?_); refine with_tabW gatherumlaw38_LayerKeeps.tab9 gatherumlaw38_LayerKeeps.bits9 (fun HT_ HW_ => ?_)
        generalize wc.drew = w53 at BK368 BK369 BK380 BK389 HB hHeld ⊢
        refine pure_ (i := 0) (N := some 34) (v := ?_) (a' := ?_) #[Zt,Zf,Zf,Zf,Zf,Zf,Zf,Zf,Zf,Zf,Zf,Zf,Zf,Zf,Zf,Zf,Zf,Zf,Zf] rfl rfl (any_of HT_.out (by kernel_rfl)) (fun _ _ _ h => h) (Or.inl ⟨by rfl, ?_⟩) ?_ ?_
        rotate_left
        ·intro w'
         go_simp
         with_reducible rfl
        rotate_left
        ·simp only [Act.put, Xa, Xb, Xc, i64_w, i32_w]
         rfl
        refine pure_ (i := 1) (N := some 35) (v := ?_) (a' := ?_) #[Zt,Zt,Zf,Zf,Zf,Zf,Zf,Zf,Zf,Zf,Zf,Zf,Zf,Zf,Zf,Zf,Zf,Zf,Zf] rfl rfl (any_of HT_.out (by kernel_rfl)) (fun _ _ _ h => h) (Or.inl ⟨by rfl, ?_⟩) ?_ ?_
        rotate_left
        ·intro w'
         go_simp
         with_reducible rfl
        rotate_left
        ·simp only [Act.put, Xa, Xb, Xc, i64_w, i32_w]
         rfl
        refine pure_ (i := 2) (N := some 36) (v := ?_) (a' := ?_) #[Zt,Zt,Zt,Zf,Zf,Zf,Zf,Zf,Zf,Zf,Zf,Zf,Zf,Zf,Zf,Zf,Zf,Zf,Zf] rfl rfl (any_of HT_.out (by kernel_rfl)) (fun _ _ _ h => h) (Or.inl ⟨by rfl, ?_⟩) ?_ ?_
        rotate_left
        ·intro w'
         go_simp
         with_reducible rfl
        rotate_left
        ·simp only [Act.put, Xa, Xb, Xc, i64_w, i32_w]
         rfl
        refine take_ (i := 3) (N := some 37) (v := ?_) (a' := ?_) #[Zt,Zt,Zt,Zt,Zf,Zf,Zf,Zf,Zf,Zf,Zf,Zf,Zf,Zf,Zf,Zf,Zf,Zf,Zf] rfl rfl (take_ofW HT_.out HW_.out (by kernel_rfl)) (fun _ _ _ h => h) (Or.inl ⟨by rfl, ?_⟩) hHeld ?_ ?_
        rotate_left
        ·rintro w' ⟨s0, s1, s2, s3, s4, s5, s6, s7, s8, s9, s10, s11, s12, s13, s14, s15, s16, s17⟩
         go_simp
         with_reducible rfl
        rotate_left
        ·simp only [Act.put, Xa, Xb, Xc, i64_w, i32_w]
         rfl
        refine take_ (i := 5) (N := some 39) (v := ?_) (a' := ?_) #[Zt,Zt,Zt,Zt,Zf,Zt,Zf,Zf,Zf,Zf,Zf,Zf,Zf,Zf,Zf,Zf,Zf,Zf,Zf] rfl rfl (take_ofW HT_.out HW_.out (by kernel_rfl)) (fun _ _ _ h => h) (Or.inl ⟨by rfl, ?_⟩) hHeld ?_ ?_
        rotate_left
        ·rintro w' ⟨s0, s1, s2, s3, s4, s5, s6, s7, s8, s9, s10, s11, s12, s13, s14, s15, s16, s17⟩
         go_simp
         with_reducible rfl
        rotate_left
        ·simp only [Act.put, Xa, Xb, Xc, i64_w, i32_w]
         rfl
        refine take_ (i := 7) (N := some 41) (v := ?_) (a' := ?_) #[Zt,Zt,Zt,Zt,Zf,Zt,Zf,Zt,Zf,Zf,Zf,Zf,Zf,Zf,Zf,Zf,Zf,Zf,Zf] rfl rfl (take_ofW HT_.out HW_.out (by kernel_rfl)) (fun _ _ _ h => h) (Or.inl ⟨by rfl, ?_⟩) hHeld ?_ ?_
        rotate_left
        ·rintro w' ⟨s0, s1, s2, s3, s4, s5, s6, s7, s8, s9, s10, s11, s12, s13, s14, s15, s16, s17⟩
         go_simp
         with_reducible rfl
        rotate_left
        ·simp only [Act.put, Xa, Xb, Xc, i64_w, i32_w]
         rfl
        refine one_ (i := 4) (N := some 38) #[Zt,Zt,Zt,Zt,Zt,Zt,Zf,Zt,Zf,Zf,Zf,Zf,Zf,Zf,Zf,Zf,Zf,Zf,Zf] rfl rfl (one_of HT_.out (by kernel_rfl)) (by decide) (fun K hK => ?_)
        refine goes_ Try.func40 (by kernel_rfl) rfl #[.agg #[.int .i64 t372, .int .i64 t373, .int .i64 t374, .int .i64 t375, .int .i64 t376, .int .i64 t377, .int .i64 t378]] (by rfl) rfl rfl (by (try simp only [List.map_toArray, List.map_cons, List.map_nil]); first | done | rfl | (simp only [List.length_drop, List.length_take]; rfl)) ?_
        with_reducible refine (gatherumref38_Lies.calls kj8 t372 t373 t374 t375 t376 t377 t378 t390 t391 t392 t393 _ A48.out).mono ?_
        rintro e w54 ⟨rfl, hb⟩
        refine ⟨_, rfl, ?_⟩
        have n0_ := Za (Xi (g := gb368) (o := .cells #[.int .i64 a0_0, .int .i64 a0_1, .int .i64 a0_2, .int .i64 a0_3, .int .i64 a0_4, .int .i64 a0_5, .int .i64 a0_6] 55 (0, 0)) (bb_16 BK368.out) hb)
        have n1_ := Za (Xi (g := gb369) (o := .cells #[.int .i64 a1_0, .int .i64 a1_1, .int .i64 a1_2, .int .i64 a1_3] 37 (0, 0)) (bb_16 BK369.out) hb)
        have n2_ := Za (Xi (g := gb380) (o := .cells #[.int .i64 t372, .int .i64 t373, .int .i64 t374, .int .i64 t375, .int .i64 t376, .int .i64 t377, .int .i64 t378] 55 (0, 0)) (bb_16 BK380.out) hb)
        have n3_ := Za (Xi (g := gb389) (o := .cells #[.int .i64 t381, .int .i64 t382, .int .i64 t383, .int .i64 t384, .int .i64 t385, .int .i64 t386, .int .i64 t387] 55 (0, 0)) (bb_16 BK389.out) hb)
        have n4_ := Za (below_step (hb_16 HB.out) hb)
        clear BK368
        clear BK369
        clear BK380
        clear BK389
        clear HB
        have BK368 := n0_
        have BK369 := n1_
        have BK380 := n2_
        have BK389 := n3_
        have HB := n4_
        clear n0_ n1_ n2_ n3_ n4_
        (try clear hb)
        (try clear hb2)
        (try clear hk)
        (try clear hi)
        refine hK.out _ _ ⟨(Xd BK380.out 0).trans rfl, (Xd BK380.out 1).trans rfl, (Xd BK380.out 2).trans rfl, (Xd BK380.out 3).trans rfl, (Xd BK380.out 4).trans rfl, (Xd BK380.out 5).trans rfl, (Xd BK380.out 6).trans rfl, (Xd BK368.out 0).trans rfl, (Xd BK368.out 1).trans rfl, (Xd BK368.out 2).trans rfl, (Xd BK368.out 3).trans rfl, (Xd BK368.out 4).trans rfl, (Xd BK368.out 5).trans rfl, (Xd BK368.out 6).trans rfl, (Xd BK369.out 0).trans rfl, (Xd BK369.out 1).trans rfl, (Xd BK369.out 2).trans rfl, (Xd BK369.out 3).trans rfl⟩ (fun hHeld => ?_)
        clear hK K
        refine norm_ (a' := ?_) ?_ ?_
        rotate_left
        ·show Act.put _ (some 38) _ = _
         simp only [Act.put, Xa, Xb, Xc, i64_w, i32_w]
         rfl
        refine one_ (i := 6) (N := some 40) #[Zt,Zt,Zt,Zt,Zt,Zt,Zt,Zt,Zf,Zf,Zf,Zf,Zf,Zf,Zf,Zf,Zf,Zf,Zf] rfl rfl (one_of HT_.out (by kernel_rfl)) (by decide) (fun K hK => ?_)
        refine goes_ Try.func40 (by kernel_rfl) rfl #[.agg #[.int .i64 a0_0, .int .i64 a0_1, .int .i64 a0_2, .int .i64 a0_3, .int .i64 a0_4, .int .i64 a0_5, .int .i64 a0_6]] (by rfl) rfl rfl (by (try simp only [List.map_toArray, List.map_cons, List.map_nil]); first | done | rfl | (simp only [List.length_drop, List.length_take]; rfl)) ?_
        with_reducible refine (gatherumref38_Lies.calls kj8 a0_0 a0_1 a0_2 a0_3 a0_4 a0_5 a0_6 t394 t395 t396 t397 _ A49.out).mono ?_
        rintro e w55 ⟨rfl, hb⟩
        refine ⟨_, rfl, ?_⟩
        have n0_ := Za (Xi (g := gb368) (o := .cells #[.int .i64 a0_0, .int .i64 a0_1, .int .i64 a0_2, .int .i64 a0_3, .int .i64 a0_4, .int .i64 a0_5, .int .i64 a0_6] 55 (0, 0)) (bb_16 BK368.out) hb)
        have n1_ := Za (Xi (g := gb369) (o := .cells #[.int .i64 a1_0, .int .i64 a1_1, .int .i64 a1_2, .int .i64 a1_3] 37 (0, 0)) (bb_16 BK369.out) hb)
        have n2_ := Za (Xi (g := gb380) (o := .cells #[.int .i64 t372, .int .i64 t373, .int .i64 t374, .int .i64 t375, .int .i64 t376, .int .i64 t377, .int .i64 t378] 55 (0, 0)) (bb_16 BK380.out) hb)
        have n3_ := Za (Xi (g := gb389) (o := .cells #[.int .i64 t381, .int .i64 t382, .int .i64 t383, .int .i64 t384, .int .i64 t385, .int .i64 t386, .int .i64 t387] 55 (0, 0)) (bb_16 BK389.out) hb)
        have n4_ := Za (below_step (hb_16 HB.out) hb)
        clear BK368
        clear BK369
        clear BK380
        clear BK389
        clear HB
        have BK368 := n0_
        have BK369 := n1_
        have BK380 := n2_
        have BK389 := n3_
        have HB := n4_
        clear n0_ n1_ n2_ n3_ n4_
        (try clear hb)
        (try clear hb2)
        (try clear hk)
        (try clear hi)
        refine hK.out _ _ ⟨(Xd BK380.out 0).trans rfl, (Xd BK380.out 1).trans rfl, (Xd BK380.out 2).trans rfl, (Xd BK380.out 3).trans rfl, (Xd BK380.out 4).trans rfl, (Xd BK380.out 5).trans rfl, (Xd BK380.out 6).trans rfl, (Xd BK368.out 0).trans rfl, (Xd BK368.out 1).trans rfl, (Xd BK368.out 2).trans rfl, (Xd BK368.out 3).trans rfl, (Xd BK368.out 4).trans rfl, (Xd BK368.out 5).trans rfl, (Xd BK368.out 6).trans rfl, (Xd BK369.out 0).trans rfl, (Xd BK369.out 1).trans rfl, (Xd BK369.out 2).trans rfl, (Xd BK369.out 3).trans rfl⟩ (fun hHeld => ?_)
        clear hK K
        refine norm_ (a' := ?_) ?_ ?_
        rotate_left
        ·show Act.put _ (some 40) _ = _
         simp only [Act.put, Xa, Xb, Xc, i64_w, i32_w]
         rfl
        refine one_ (i := 8) (N := some 42) #[Zt,Zt,Zt,Zt,Zt,Zt,Zt,Zt,Zt,Zf,Zf,Zf,Zf,Zf,Zf,Zf,Zf,Zf,Zf] rfl rfl (one_of HT_.out (by kernel_rfl)) (by decide) (fun K hK => ?_)
        refine goes_ Try.func46 (by kernel_rfl) rfl #[.agg #[.int .i64 t394, .int .i64 t395, .int .i64 t396, .int .i64 t397], .agg #[.int .i64 a1_0, .int .i64 a1_1, .int .i64 a1_2, .int .i64 a1_3]] (by rfl) rfl rfl (by (try simp only [List.map_toArray, List.map_cons, List.map_nil]); first | done | rfl | (simp only [List.length_drop, List.length_take]; rfl)) ?_
        with_reducible refine (gatherumref04_Meet.calls t394 t395 t396 t397 a1_0 a1_1 a1_2 a1_3 t398 t399 t400 t401 _ A50.out).mono ?_
        rintro e w56 ⟨rfl, hb⟩
        refine ⟨_, rfl, ?_⟩
        have n0_ := Za (Xi (g := gb368) (o := .cells #[.int .i64 a0_0, .int .i64 a0_1, .int .i64 a0_2, .int .i64 a0_3, .int .i64 a0_4, .int .i64 a0_5, .int .i64 a0_6] 55 (0, 0)) (bb_16 BK368.out) hb)
        have n1_ := Za (Xi (g := gb369) (o := .cells #[.int .i64 a1_0, .int .i64 a1_1, .int .i64 a1_2, .int .i64 a1_3] 37 (0, 0)) (bb_16 BK369.out) hb)
        have n2_ := Za (Xi (g := gb380) (o := .cells #[.int .i64 t372, .int .i64 t373, .int .i64 t374, .int .i64 t375, .int .i64 t376, .int .i64 t377, .int .i64 t378] 55 (0, 0)) (bb_16 BK380.out) hb)
        have n3_ := Za (Xi (g := gb389) (o := .cells #[.int .i64 t381, .int .i64 t382, .int .i64 t383, .int .i64 t384, .int .i64 t385, .int .i64 t386, .int .i64 t387] 55 (0, 0)) (bb_16 BK389.out) hb)
        have n4_ := Za (below_step (hb_16 HB.out) hb)
        clear BK368
        clear BK369
        clear BK380
        clear BK389
        clear HB
        have BK368 := n0_
        have BK369 := n1_
        have BK380 := n2_
        have BK389 := n3_
        have HB := n4_
        clear n0_ n1_ n2_ n3_ n4_
        (try clear hb)
        (try clear hb2)
        (try clear hk)
        (try clear hi)
        refine hK.out _ _ ⟨(Xd BK380.out 0).trans rfl, (Xd BK380.out 1).trans rfl, (Xd BK380.out 2).trans rfl, (Xd BK380.out 3).trans rfl, (Xd BK380.out 4).trans rfl, (Xd BK380.out 5).trans rfl, (Xd BK380.out 6).trans rfl, (Xd BK368.out 0).trans rfl, (Xd BK368.out 1).trans rfl, (Xd BK368.out 2).trans rfl, (Xd BK368.out 3).trans rfl, (Xd BK368.out 4).trans rfl, (Xd BK368.out 5).trans rfl, (Xd BK368.out 6).trans rfl, (Xd BK369.out 0).trans rfl, (Xd BK369.out 1).trans rfl, (Xd BK369.out 2).trans rfl, (Xd BK369.out 3).trans rfl⟩ (fun hHeld => ?_)
        clear hK K
        refine norm_ (a' := ?_) ?_ ?_
        rotate_left
        ·show Act.put _ (some 42) _ = _
         simp only [Act.put, Xa, Xb, Xc, i64_w, i32_w]
         rfl
        refine pure_ (i := 9) (N := some 43) (v := ?_) (a' := ?_) #[Zt,Zt,Zt,Zt,Zt,Zt,Zt,Zt,Zt,Zt,Zf,Zf,Zf,Zf,Zf,Zf,Zf,Zf,Zf] rfl rfl (any_of HT_.out (by kernel_rfl)) (fun _ _ _ h => h) (Or.inl ⟨by rfl, ?_⟩) ?_ ?_
        rotate_left
        ·intro w'
         go_simp
         with_reducible rfl
        rotate_left
        ·simp only [Act.put, Xa, Xb, Xc, i64_w, i32_w]
         rfl
        refine pure_ (i := 10) (N := some 44) (v := ?_) (a' := ?_) #[Zt,Zt,Zt,Zt,Zt,Zt,Zt,Zt,Zt,Zt,Zt,Zf,Zf,Zf,Zf,Zf,Zf,Zf,Zf] rfl rfl (any_of HT_.out (by kernel_rfl)) (fun _ _ _ h => h) (Or.inl ⟨by rfl, ?_⟩) ?_ ?_
        rotate_left
        ·intro w'
         go_simp
         with_reducible rfl
        rotate_left
        ·simp only [Act.put, Xa, Xb, Xc, i64_w, i32_w]
         rfl
        refine pure_ (i := 11) (N := some 45) (v := ?_) (a' := ?_) #[Zt,Zt,Zt,Zt,Zt,Zt,Zt,Zt,Zt,Zt,Zt,Zt,Zf,Zf,Zf,Zf,Zf,Zf,Zf] rfl rfl (any_of HT_.out (by kernel_rfl)) (fun _ _ _ h => h) (Or.inl ⟨by rfl, ?_⟩) ?_ ?_
        rotate_left
        ·intro w'
         go_simp
         with_reducible rfl
        rotate_left
        ·simp only [Act.put, Xa, Xb, Xc, i64_w, i32_w]
         rfl
        refine pure_ (i := 13) (N := some 47) (v := ?_) (a' := ?_) #[Zt,Zt,Zt,Zt,Zt,Zt,Zt,Zt,Zt,Zt,Zt,Zt,Zf,Zt,Zf,Zf,Zf,Zf,Zf] rfl rfl (any_of HT_.out (by kernel_rfl)) (fun _ _ _ h => h) (Or.inl ⟨by rfl, ?_⟩) ?_ ?_
        rotate_left
        ·intro w'
         go_simp
         with_reducible rfl
        rotate_left
        ·simp only [Act.put, Xa, Xb, Xc, i64_w, i32_w]
         rfl
        refine take_ (i := 12) (N := some 46) (v := ?_) (a' := ?_) #[Zt,Zt,Zt,Zt,Zt,Zt,Zt,Zt,Zt,Zt,Zt,Zt,Zt,Zt,Zf,Zf,Zf,Zf,Zf] rfl rfl (take_ofW HT_.out HW_.out (by kernel_rfl)) (fun _ _ _ h => h) (Or.inl ⟨by rfl, ?_⟩) hHeld ?_ ?_
        rotate_left
        ·rintro w' ⟨s0, s1, s2, s3, s4, s5, s6, s7, s8, s9, s10, s11, s12, s13, s14, s15, s16, s17⟩
         go_simp
         with_reducible rfl
        rotate_left
        ·simp only [Act.put, Xa, Xb, Xc, i64_w, i32_w]
         rfl
        refine take_ (i := 14) (N := some 48) (v := ?_) (a' := ?_) #[Zt,Zt,Zt,Zt,Zt,Zt,Zt,Zt,Zt,Zt,Zt,Zt,Zt,Zt,Zt,Zf,Zf,Zf,Zf] rfl rfl (take_ofW HT_.out HW_.out (by kernel_rfl)) (fun _ _ _ h => h) (Or.inl ⟨by rfl, ?_⟩) hHeld ?_ ?_
        rotate_left
        ·rintro w' ⟨s0, s1, s2, s3, s4, s5, s6, s7, s8, s9, s10, s11, s12, s13, s14, s15, s16, s17⟩
         go_simp
         with_reducible rfl
        rotate_left
        ·simp only [Act.put, Xa, Xb, Xc, i64_w, i32_w]
         rfl
        refine one_ (i := 15) (N := some 49) #[Zt,Zt,Zt,Zt,Zt,Zt,Zt,Zt,Zt,Zt,Zt,Zt,Zt,Zt,Zt,Zt,Zf,Zf,Zf] rfl rfl (one_of HT_.out (by kernel_rfl)) (by decide) (fun K hK => ?_)
        refine goes_ Try.func47 (by kernel_rfl) rfl #[.agg #[.int .i64 t372, .int .i64 t373, .int .i64 t374, .int .i64 t375], .agg #[.int .i64 a0_0, .int .i64 a0_1, .int .i64 a0_2, .int .i64 a0_3]] (by rfl) rfl rfl (by (try simp only [List.map_toArray, List.map_cons, List.map_nil]); first | done | rfl | (simp only [List.length_drop, List.length_take]; rfl)) ?_
        with_reducible refine (gatherumref04_Within.calls t372 t373 t374 t375 a0_0 a0_1 a0_2 a0_3 t402 _ A52.out).mono ?_
        rintro e w57 ⟨rfl, hb⟩
        refine ⟨_, rfl, ?_⟩
        have n0_ := Za (Xi (g := gb368) (o := .cells #[.int .i64 a0_0, .int .i64 a0_1, .int .i64 a0_2, .int .i64 a0_3, .int .i64 a0_4, .int .i64 a0_5, .int .i64 a0_6] 55 (0, 0)) (bb_16 BK368.out) hb)
        have n1_ := Za (Xi (g := gb369) (o := .cells #[.int .i64 a1_0, .int .i64 a1_1, .int .i64 a1_2, .int .i64 a1_3] 37 (0, 0)) (bb_16 BK369.out) hb)
        have n2_ := Za (Xi (g := gb380) (o := .cells #[.int .i64 t372, .int .i64 t373, .int .i64 t374, .int .i64 t375, .int .i64 t376, .int .i64 t377, .int .i64 t378] 55 (0, 0)) (bb_16 BK380.out) hb)
        have n3_ := Za (Xi (g := gb389) (o := .cells #[.int .i64 t381, .int .i64 t382, .int .i64 t383, .int .i64 t384, .int .i64 t385, .int .i64 t386, .int .i64 t387] 55 (0, 0)) (bb_16 BK389.out) hb)
        have n4_ := Za (below_step (hb_16 HB.out) hb)
        clear BK368
        clear BK369
        clear BK380
        clear BK389
        clear HB
        have BK368 := n0_
        have BK369 := n1_
        have BK380 := n2_
        have BK389 := n3_
        have HB := n4_
        clear n0_ n1_ n2_ n3_ n4_
        (try clear hb)
        (try clear hb2)
        (try clear hk)
        (try clear hi)
        refine hK.out _ _ ⟨(Xd BK380.out 0).trans rfl, (Xd BK380.out 1).trans rfl, (Xd BK380.out 2).trans rfl, (Xd BK380.out 3).trans rfl, (Xd BK380.out 4).trans rfl, (Xd BK380.out 5).trans rfl, (Xd BK380.out 6).trans rfl, (Xd BK368.out 0).trans rfl, (Xd BK368.out 1).trans rfl, (Xd BK368.out 2).trans rfl, (Xd BK368.out 3).trans rfl, (Xd BK368.out 4).trans rfl, (Xd BK368.out 5).trans rfl, (Xd BK368.out 6).trans rfl, (Xd BK369.out 0).trans rfl, (Xd BK369.out 1).trans rfl, (Xd BK369.out 2).trans rfl, (Xd BK369.out 3).trans rfl⟩ (fun hHeld => ?_)
        clear hK K
        refine norm_ (a' := ?_) ?_ ?_
        rotate_left
        ·show Act.put _ (some 49) _ = _
         simp only [Act.put, Xa, Xb, Xc, i64_w, i32_w]
         rfl
        refine pure_ (i := 16) (N := some 50) (v := ?_) (a' := ?_) #[Zt,Zt,Zt,Zt,Zt,Zt,Zt,Zt,Zt,Zt,Zt,Zt,Zt,Zt,Zt,Zt,Zt,Zf,Zf] rfl rfl (any_of HT_.out (by kernel_rfl)) (fun _ _ _ h => h) (Or.inl ⟨by rfl, ?_⟩) ?_ ?_
        rotate_left
        ·intro w'
         go_simp
         with_reducible rfl
        rotate_left
        ·simp only [Act.put, Xa, Xb, Xc, i64_w, i32_w]
         rfl
        refine pure_ (i := 17) (N := some 51) (v := ?_) (a' := ?_) #[Zt,Zt,Zt,Zt,Zt,Zt,Zt,Zt,Zt,Zt,Zt,Zt,Zt,Zt,Zt,Zt,Zt,Zt,Zf] rfl rfl (any_of HT_.out (by kernel_rfl)) (fun _ _ _ h => h) (Or.inl ⟨by rfl, ?_⟩) ?_ ?_
        rotate_left
        ·intro w'
         go_simp
         with_reducible rfl
        rotate_left
        ·simp only [Act.put, Xa, Xb, Xc, i64_w, i32_w]
         rfl
        refine pure_ (i := 18) (N := some 4) (v := ?_) (a' := ?_) #[Zt,Zt,Zt,Zt,Zt,Zt,Zt,Zt,Zt,Zt,Zt,Zt,Zt,Zt,Zt,Zt,Zt,Zt,Zt] rfl rfl (any_of HT_.out (by kernel_rfl)) (fun _ _ _ h => h) (Or.inl ⟨by rfl, ?_⟩) ?_ ?_
        rotate_left
        ·intro w'
         go_simp
         with_reducible rfl
        rotate_left
        ·simp only [Act.put, Xa, Xb, Xc, i64_w, i32_w]
         rfl
        refine done_ (done_of HT_.out (by kernel_rfl)) ?_
        try go_wp2
        go_ret
        exact ⟨by first | rfl | (simp [errW_none, errW_some] <;> rfl) | (simp [*, errW_none, errW_some] <;> rfl), by repeat (first | (with_reducible first | exact HB.out | apply below_alloc | apply pw_below_drewN | apply below_drew1 | refine below_set ?_ GE368.out | refine below_set ?_ GE369.out | refine below_set ?_ GE380.out | refine below_set ?_ GE389.out) | exact HB.out)⟩
       ·rw [if_neg c51] at H
        have c51b0 : (t390 == t398 && (t391 == t399 && (t392 == t400 && (t393 == t401)))) = Zf := by simpa using c51
        (try (have c51b1 : decide (t390 = t398 && (t391 == t399 && (t392 == t400 && (t393 == t401)))) = Zf := by simpa using c51))
        (try (have c51b2 : (t390 == t398 && (t391 == t399 && (t392 == t400 && (t393 == t401)))) = Zf := by simpa using c51))
        (try (have c51b3 : ¬ (t390 = t398 && (t391 == t399 && (t392 == t400 && (t393 == t401)))) := by simpa using c51))
        clear c51
        obtain rfl := Option.some.inj H
        try go_wp2
        have n0_ := Za (Xe BK368.out)
        have n1_ := Za (Xe BK369.out)
        have n2_ := Za (Xe BK380.out)
        have n3_ := Za (Xe BK389.out)
        have n4_ := Za (below_drew1 HB.out)
        clear BK368
        clear BK369
        clear BK380
        clear BK389
        clear HB
        have BK368 := n0_
        have BK369 := n1_
        have BK380 := n2_
        have BK389 := n3_
        have HB := n4_
        clear n0_ n1_ n2_ n3_ n4_
        refine start_ (n := 19) (S := fun w' => w'.cell? ⟨gb380, 0, none⟩ = some (.int .i64 t372) ∧ w'.cell? ⟨gb380, 1, none⟩ = some (.int .i64 t373) ∧ w'.cell? ⟨gb380, 2, none⟩ = some (.int .i64 t374) ∧ w'.cell? ⟨gb380, 3, none⟩ = some (.int .i64 t375) ∧ w'.cell? ⟨gb380, 4, none⟩ = some (.int .i64 t376) ∧ w'.cell? ⟨gb380, 5, none⟩ = some (.int .i64 t377) ∧ w'.cell? ⟨gb380, 6, none⟩ = some (.int .i64 t378) ∧ w'.cell? ⟨gb368, 0, none⟩ = some (.int .i64 a0_0) ∧ w'.cell? ⟨gb368, 1, none⟩ = some (.int .i64 a0_1) ∧ w'.cell? ⟨gb368, 2, none⟩ = some (.int .i64 a0_2) ∧ w'.cell? ⟨gb368, 3, none⟩ = some (.int .i64 a0_3) ∧ w'.cell? ⟨gb368, 4, none⟩ = some (.int .i64 a0_4) ∧ w'.cell? ⟨gb368, 5, none⟩ = some (.int .i64 a0_5) ∧ w'.cell? ⟨gb368, 6, none⟩ = some (.int .i64 a0_6) ∧ w'.cell? ⟨gb369, 0, none⟩ = some (.int .i64 a1_0) ∧ w'.cell? ⟨gb369, 1, none⟩ = some (.int .i64 a1_1) ∧ w'.cell? ⟨gb369, 2, none⟩ = some (.int .i64 a1_2) ∧ w'.cell? ⟨gb369, 3, none⟩ = some (.int .i64 a1_3)) (ds := []) #[Zf,Zf,Zf,Zf,Zf,Zf,Zf,Zf,Zf,Zf,Zf,Zf,Zf,Zf,Zf,Zf,Zf,Zf,Zf] (by kernel_rfl) rfl rfl ⟨(Xd BK380.out 0).trans rfl, (Xd BK380.out 1).trans rfl, (Xd BK380.out 2).trans rfl, (Xd BK380.out 3).trans rfl, (Xd BK380.out 4).trans rfl, (Xd BK380.out 5).trans rfl, (Xd BK380.out 6).trans rfl, (Xd BK368.out 0).trans rfl, (Xd BK368.out 1).trans rfl, (Xd BK368.out 2).trans rfl, (Xd BK368.out 3).trans rfl, (Xd BK368.out 4).trans rfl, (Xd BK368.out 5).trans rfl, (Xd BK368.out 6).trans rfl, (Xd BK369.out 0).trans rfl, (Xd BK369.out 1).trans rfl, (Xd BK369.out 2).trans rfl, (Xd BK369.out 3).trans rfl⟩ (fun hHeld => ?_); refine with_tabW gatherumlaw38_LayerKeeps.tab9 gatherumlaw38_LayerKeeps.bits9 (fun HT_ HW_ => ?_)
        generalize wc.drew = w58 at BK368 BK369 BK380 BK389 HB hHeld ⊢
        refine pure_ (i := 0) (N := some 34) (v := ?_) (a' := ?_) #[Zt,Zf,Zf,Zf,Zf,Zf,Zf,Zf,Zf,Zf,Zf,Zf,Zf,Zf,Zf,Zf,Zf,Zf,Zf] rfl rfl (any_of HT_.out (by kernel_rfl)) (fun _ _ _ h => h) (Or.inl ⟨by rfl, ?_⟩) ?_ ?_
        rotate_left
        ·intro w'
         go_simp
         with_reducible rfl
        rotate_left
        ·simp only [Act.put, Xa, Xb, Xc, i64_w, i32_w]
         rfl
        refine pure_ (i := 1) (N := some 35) (v := ?_) (a' := ?_) #[Zt,Zt,Zf,Zf,Zf,Zf,Zf,Zf,Zf,Zf,Zf,Zf,Zf,Zf,Zf,Zf,Zf,Zf,Zf] rfl rfl (any_of HT_.out (by kernel_rfl)) (fun _ _ _ h => h) (Or.inl ⟨by rfl, ?_⟩) ?_ ?_
        rotate_left
        ·intro w'
         go_simp
         with_reducible rfl
        rotate_left
        ·simp only [Act.put, Xa, Xb, Xc, i64_w, i32_w]
         rfl
        refine pure_ (i := 2) (N := some 36) (v := ?_) (a' := ?_) #[Zt,Zt,Zt,Zf,Zf,Zf,Zf,Zf,Zf,Zf,Zf,Zf,Zf,Zf,Zf,Zf,Zf,Zf,Zf] rfl rfl (any_of HT_.out (by kernel_rfl)) (fun _ _ _ h => h) (Or.inl ⟨by rfl, ?_⟩) ?_ ?_
        rotate_left
        ·intro w'
         go_simp
         with_reducible rfl
        rotate_left
        ·simp only [Act.put, Xa, Xb, Xc, i64_w, i32_w]
         rfl
        refine take_ (i := 3) (N := some 37) (v := ?_) (a' := ?_) #[Zt,Zt,Zt,Zt,Zf,Zf,Zf,Zf,Zf,Zf,Zf,Zf,Zf,Zf,Zf,Zf,Zf,Zf,Zf] rfl rfl (take_ofW HT_.out HW_.out (by kernel_rfl)) (fun _ _ _ h => h) (Or.inl ⟨by rfl, ?_⟩) hHeld ?_ ?_
        rotate_left
        ·rintro w' ⟨s0, s1, s2, s3, s4, s5, s6, s7, s8, s9, s10, s11, s12, s13, s14, s15, s16, s17⟩
         go_simp
         with_reducible rfl
        rotate_left
        ·simp only [Act.put, Xa, Xb, Xc, i64_w, i32_w]
         rfl
        refine take_ (i := 5) (N := some 39) (v := ?_) (a' := ?_) #[Zt,Zt,Zt,Zt,Zf,Zt,Zf,Zf,Zf,Zf,Zf,Zf,Zf,Zf,Zf,Zf,Zf,Zf,Zf] rfl rfl (take_ofW HT_.out HW_.out (by kernel_rfl)) (fun _ _ _ h => h) (Or.inl ⟨by rfl, ?_⟩) hHeld ?_ ?_
        rotate_left
        ·rintro w' ⟨s0, s1, s2, s3, s4, s5, s6, s7, s8, s9, s10, s11, s12, s13, s14, s15, s16, s17⟩
         go_simp
         with_reducible rfl
        rotate_left
        ·simp only [Act.put, Xa, Xb, Xc, i64_w, i32_w]
         rfl
        refine take_ (i := 7) (N := some 41) (v := ?_) (a' := ?_) #[Zt,Zt,Zt,Zt,Zf,Zt,Zf,Zt,Zf,Zf,Zf,Zf,Zf,Zf,Zf,Zf,Zf,Zf,Zf] rfl rfl (take_ofW HT_.out HW_.out (by kernel_rfl)) (fun _ _ _ h => h) (Or.inl ⟨by rfl, ?_⟩) hHeld ?_ ?_
        rotate_left
        ·rintro w' ⟨s0, s1, s2, s3, s4, s5, s6, s7, s8, s9, s10, s11, s12, s13, s14, s15, s16, s17⟩
         go_simp
         with_reducible rfl
        rotate_left
        ·simp only [Act.put, Xa, Xb, Xc, i64_w, i32_w]
         rfl
        refine one_ (i := 4) (N := some 38) #[Zt,Zt,Zt,Zt,Zt,Zt,Zf,Zt,Zf,Zf,Zf,Zf,Zf,Zf,Zf,Zf,Zf,Zf,Zf] rfl rfl (one_of HT_.out (by kernel_rfl)) (by decide) (fun K hK => ?_)
        refine goes_ Try.func40 (by kernel_rfl) rfl #[.agg #[.int .i64 t372, .int .i64 t373, .int .i64 t374, .int .i64 t375, .int .i64 t376, .int .i64 t377, .int .i64 t378]] (by rfl) rfl rfl (by (try simp only [List.map_toArray, List.map_cons, List.map_nil]); first | done | rfl | (simp only [List.length_drop, List.length_take]; rfl)) ?_
        with_reducible refine (gatherumref38_Lies.calls kj8 t372 t373 t374 t375 t376 t377 t378 t390 t391 t392 t393 _ A48.out).mono ?_
        rintro e w59 ⟨rfl, hb⟩
        refine ⟨_, rfl, ?_⟩
        have n0_ := Za (Xi (g := gb368) (o := .cells #[.int .i64 a0_0, .int .i64 a0_1, .int .i64 a0_2, .int .i64 a0_3, .int .i64 a0_4, .int .i64 a0_5, .int .i64 a0_6] 55 (0, 0)) (bb_16 BK368.out) hb)
        have n1_ := Za (Xi (g := gb369) (o := .cells #[.int .i64 a1_0, .int .i64 a1_1, .int .i64 a1_2, .int .i64 a1_3] 37 (0, 0)) (bb_16 BK369.out) hb)
        have n2_ := Za (Xi (g := gb380) (o := .cells #[.int .i64 t372, .int .i64 t373, .int .i64 t374, .int .i64 t375, .int .i64 t376, .int .i64 t377, .int .i64 t378] 55 (0, 0)) (bb_16 BK380.out) hb)
        have n3_ := Za (Xi (g := gb389) (o := .cells #[.int .i64 t381, .int .i64 t382, .int .i64 t383, .int .i64 t384, .int .i64 t385, .int .i64 t386, .int .i64 t387] 55 (0, 0)) (bb_16 BK389.out) hb)
        have n4_ := Za (below_step (hb_16 HB.out) hb)
        clear BK368
        clear BK369
        clear BK380
        clear BK389
        clear HB
        have BK368 := n0_
        have BK369 := n1_
        have BK380 := n2_
        have BK389 := n3_
        have HB := n4_
        clear n0_ n1_ n2_ n3_ n4_
        (try clear hb)
        (try clear hb2)
        (try clear hk)
        (try clear hi)
        refine hK.out _ _ ⟨(Xd BK380.out 0).trans rfl, (Xd BK380.out 1).trans rfl, (Xd BK380.out 2).trans rfl, (Xd BK380.out 3).trans rfl, (Xd BK380.out 4).trans rfl, (Xd BK380.out 5).trans rfl, (Xd BK380.out 6).trans rfl, (Xd BK368.out 0).trans rfl, (Xd BK368.out 1).trans rfl, (Xd BK368.out 2).trans rfl, (Xd BK368.out 3).trans rfl, (Xd BK368.out 4).trans rfl, (Xd BK368.out 5).trans rfl, (Xd BK368.out 6).trans rfl, (Xd BK369.out 0).trans rfl, (Xd BK369.out 1).trans rfl, (Xd BK369.out 2).trans rfl, (Xd BK369.out 3).trans rfl⟩ (fun hHeld => ?_)
        clear hK K
        refine norm_ (a' := ?_) ?_ ?_
        rotate_left
        ·show Act.put _ (some 38) _ = _
         simp only [Act.put, Xa, Xb, Xc, i64_w, i32_w]
         rfl
        refine one_ (i := 6) (N := some 40) #[Zt,Zt,Zt,Zt,Zt,Zt,Zt,Zt,Zf,Zf,Zf,Zf,Zf,Zf,Zf,Zf,Zf,Zf,Zf] rfl rfl (one_of HT_.out (by kernel_rfl)) (by decide) (fun K hK => ?_)
        refine goes_ Try.func40 (by kernel_rfl) rfl #[.agg #[.int .i64 a0_0, .int .i64 a0_1, .int .i64 a0_2, .int .i64 a0_3, .int .i64 a0_4, .int .i64 a0_5, .int .i64 a0_6]] (by rfl) rfl rfl (by (try simp only [List.map_toArray, List.map_cons, List.map_nil]); first | done | rfl | (simp only [List.length_drop, List.length_take]; rfl)) ?_
        with_reducible refine (gatherumref38_Lies.calls kj8 a0_0 a0_1 a0_2 a0_3 a0_4 a0_5 a0_6 t394 t395 t396 t397 _ A49.out).mono ?_
        rintro e w60 ⟨rfl, hb⟩
        refine ⟨_, rfl, ?_⟩
        have n0_ := Za (Xi (g := gb368) (o := .cells #[.int .i64 a0_0, .int .i64 a0_1, .int .i64 a0_2, .int .i64 a0_3, .int .i64 a0_4, .int .i64 a0_5, .int .i64 a0_6] 55 (0, 0)) (bb_16 BK368.out) hb)
        have n1_ := Za (Xi (g := gb369) (o := .cells #[.int .i64 a1_0, .int .i64 a1_1, .int .i64 a1_2, .int .i64 a1_3] 37 (0, 0)) (bb_16 BK369.out) hb)
        have n2_ := Za (Xi (g := gb380) (o := .cells #[.int .i64 t372, .int .i64 t373, .int .i64 t374, .int .i64 t375, .int .i64 t376, .int .i64 t377, .int .i64 t378] 55 (0, 0)) (bb_16 BK380.out) hb)
        have n3_ := Za (Xi (g := gb389) (o := .cells #[.int .i64 t381, .int .i64 t382, .int .i64 t383, .int .i64 t384, .int .i64 t385, .int .i64 t386, .int .i64 t387] 55 (0, 0)) (bb_16 BK389.out) hb)
        have n4_ := Za (below_step (hb_16 HB.out) hb)
        clear BK368
        clear BK369
        clear BK380
        clear BK389
        clear HB
        have BK368 := n0_
        have BK369 := n1_
        have BK380 := n2_
        have BK389 := n3_
        have HB := n4_
        clear n0_ n1_ n2_ n3_ n4_
        (try clear hb)
        (try clear hb2)
        (try clear hk)
        (try clear hi)
        refine hK.out _ _ ⟨(Xd BK380.out 0).trans rfl, (Xd BK380.out 1).trans rfl, (Xd BK380.out 2).trans rfl, (Xd BK380.out 3).trans rfl, (Xd BK380.out 4).trans rfl, (Xd BK380.out 5).trans rfl, (Xd BK380.out 6).trans rfl, (Xd BK368.out 0).trans rfl, (Xd BK368.out 1).trans rfl, (Xd BK368.out 2).trans rfl, (Xd BK368.out 3).trans rfl, (Xd BK368.out 4).trans rfl, (Xd BK368.out 5).trans rfl, (Xd BK368.out 6).trans rfl, (Xd BK369.out 0).trans rfl, (Xd BK369.out 1).trans rfl, (Xd BK369.out 2).trans rfl, (Xd BK369.out 3).trans rfl⟩ (fun hHeld => ?_)
        clear hK K
        refine norm_ (a' := ?_) ?_ ?_
        rotate_left
        ·show Act.put _ (some 40) _ = _
         simp only [Act.put, Xa, Xb, Xc, i64_w, i32_w]
         rfl
        refine one_ (i := 8) (N := some 42) #[Zt,Zt,Zt,Zt,Zt,Zt,Zt,Zt,Zt,Zf,Zf,Zf,Zf,Zf,Zf,Zf,Zf,Zf,Zf] rfl rfl (one_of HT_.out (by kernel_rfl)) (by decide) (fun K hK => ?_)
        refine goes_ Try.func46 (by kernel_rfl) rfl #[.agg #[.int .i64 t394, .int .i64 t395, .int .i64 t396, .int .i64 t397], .agg #[.int .i64 a1_0, .int .i64 a1_1, .int .i64 a1_2, .int .i64 a1_3]] (by rfl) rfl rfl (by (try simp only [List.map_toArray, List.map_cons, List.map_nil]); first | done | rfl | (simp only [List.length_drop, List.length_take]; rfl)) ?_
        with_reducible refine (gatherumref04_Meet.calls t394 t395 t396 t397 a1_0 a1_1 a1_2 a1_3 t398 t399 t400 t401 _ A50.out).mono ?_
        rintro e w61 ⟨rfl, hb⟩
        refine ⟨_, rfl, ?_⟩
        have n0_ := Za (Xi (g := gb368) (o := .cells #[.int .i64 a0_0, .int .i64 a0_1, .int .i64 a0_2, .int .i64 a0_3, .int .i64 a0_4, .int .i64 a0_5, .int .i64 a0_6] 55 (0, 0)) (bb_16 BK368.out) hb)
        have n1_ := Za (Xi (g := gb369) (o := .cells #[.int .i64 a1_0, .int .i64 a1_1, .int .i64 a1_2, .int .i64 a1_3] 37 (0, 0)) (bb_16 BK369.out) hb)
        have n2_ := Za (Xi (g := gb380) (o := .cells #[.int .i64 t372, .int .i64 t373, .int .i64 t374, .int .i64 t375, .int .i64 t376, .int .i64 t377, .int .i64 t378] 55 (0, 0)) (bb_16 BK380.out) hb)
        have n3_ := Za (Xi (g := gb389) (o := .cells #[.int .i64 t381, .int .i64 t382, .int .i64 t383, .int .i64 t384, .int .i64 t385, .int .i64 t386, .int .i64 t387] 55 (0, 0)) (bb_16 BK389.out) hb)
        have n4_ := Za (below_step (hb_16 HB.out) hb)
        clear BK368
        clear BK369
        clear BK380
        clear BK389
        clear HB
        have BK368 := n0_
        have BK369 := n1_
        have BK380 := n2_
        have BK389 := n3_
        have HB := n4_
        clear n0_ n1_ n2_ n3_ n4_
        (try clear hb)
        (try clear hb2)
        (try clear hk)
        (try clear hi)
        refine hK.out _ _ ⟨(Xd BK380.out 0).trans rfl, (Xd BK380.out 1).trans rfl, (Xd BK380.out 2).trans rfl, (Xd BK380.out 3).trans rfl, (Xd BK380.out 4).trans rfl, (Xd BK380.out 5).trans rfl, (Xd BK380.out 6).trans rfl, (Xd BK368.out 0).trans rfl, (Xd BK368.out 1).trans rfl, (Xd BK368.out 2).trans rfl, (Xd BK368.out 3).trans rfl, (Xd BK368.out 4).trans rfl, (Xd BK368.out 5).trans rfl, (Xd BK368.out 6).trans rfl, (Xd BK369.out 0).trans rfl, (Xd BK369.out 1).trans rfl, (Xd BK369.out 2).trans rfl, (Xd BK369.out 3).trans rfl⟩ (fun hHeld => ?_)
        clear hK K
        refine norm_ (a' := ?_) ?_ ?_
        rotate_left
        ·show Act.put _ (some 42) _ = _
         simp only [Act.put, Xa, Xb, Xc, i64_w, i32_w]
         rfl
        refine pure_ (i := 9) (N := some 43) (v := ?_) (a' := ?_) #[Zt,Zt,Zt,Zt,Zt,Zt,Zt,Zt,Zt,Zt,Zf,Zf,Zf,Zf,Zf,Zf,Zf,Zf,Zf] rfl rfl (any_of HT_.out (by kernel_rfl)) (fun _ _ _ h => h) (Or.inl ⟨by rfl, ?_⟩) ?_ ?_
        rotate_left
        ·intro w'
         go_simp
         with_reducible rfl
        rotate_left
        ·simp only [Act.put, Xa, Xb, Xc, i64_w, i32_w]
         rfl
        refine pure_ (i := 10) (N := some 44) (v := ?_) (a' := ?_) #[Zt,Zt,Zt,Zt,Zt,Zt,Zt,Zt,Zt,Zt,Zt,Zf,Zf,Zf,Zf,Zf,Zf,Zf,Zf] rfl rfl (any_of HT_.out (by kernel_rfl)) (fun _ _ _ h => h) (Or.inl ⟨by rfl, ?_⟩) ?_ ?_
        rotate_left
        ·intro w'
         go_simp
         with_reducible rfl
        rotate_left
        ·simp only [Act.put, Xa, Xb, Xc, i64_w, i32_w]
         rfl
        refine pure_ (i := 11) (N := some 45) (v := undef) (a' := ?_) #[Zt,Zt,Zt,Zt,Zt,Zt,Zt,Zt,Zt,Zt,Zt,Zt,Zf,Zf,Zf,Zf,Zf,Zf,Zf] rfl rfl (any_of HT_.out (by kernel_rfl)) (fun _ _ _ h => h) (Or.inr ⟨by rfl, rfl⟩) ?_ ?_
        rotate_left
        ·simp only [Act.put, Xa, Xb, Xc, i64_w, i32_w]
         rfl
        refine pure_ (i := 12) (N := some 46) (v := undef) (a' := ?_) #[Zt,Zt,Zt,Zt,Zt,Zt,Zt,Zt,Zt,Zt,Zt,Zt,Zt,Zf,Zf,Zf,Zf,Zf,Zf] rfl rfl (any_of HT_.out (by kernel_rfl)) (fun _ _ _ h => h) (Or.inr ⟨by rfl, rfl⟩) ?_ ?_
        rotate_left
        ·simp only [Act.put, Xa, Xb, Xc, i64_w, i32_w]
         rfl
        refine pure_ (i := 13) (N := some 47) (v := undef) (a' := ?_) #[Zt,Zt,Zt,Zt,Zt,Zt,Zt,Zt,Zt,Zt,Zt,Zt,Zt,Zt,Zf,Zf,Zf,Zf,Zf] rfl rfl (any_of HT_.out (by kernel_rfl)) (fun _ _ _ h => h) (Or.inr ⟨by rfl, rfl⟩) ?_ ?_
        rotate_left
        ·simp only [Act.put, Xa, Xb, Xc, i64_w, i32_w]
         rfl
        refine pure_ (i := 14) (N := some 48) (v := undef) (a' := ?_) #[Zt,Zt,Zt,Zt,Zt,Zt,Zt,Zt,Zt,Zt,Zt,Zt,Zt,Zt,Zt,Zf,Zf,Zf,Zf] rfl rfl (any_of HT_.out (by kernel_rfl)) (fun _ _ _ h => h) (Or.inr ⟨by rfl, rfl⟩) ?_ ?_
        rotate_left
        ·simp only [Act.put, Xa, Xb, Xc, i64_w, i32_w]
         rfl
        refine pure_ (i := 15) (N := some 49) (v := undef) (a' := ?_) #[Zt,Zt,Zt,Zt,Zt,Zt,Zt,Zt,Zt,Zt,Zt,Zt,Zt,Zt,Zt,Zt,Zf,Zf,Zf] rfl rfl (any_of HT_.out (by kernel_rfl)) (fun _ _ _ h => h) (Or.inr ⟨by rfl, rfl⟩) ?_ ?_
        rotate_left
        ·simp only [Act.put, Xa, Xb, Xc, i64_w, i32_w]
         rfl
        refine pure_ (i := 16) (N := some 50) (v := ?_) (a' := ?_) #[Zt,Zt,Zt,Zt,Zt,Zt,Zt,Zt,Zt,Zt,Zt,Zt,Zt,Zt,Zt,Zt,Zt,Zf,Zf] rfl rfl (any_of HT_.out (by kernel_rfl)) (fun _ _ _ h => h) (Or.inl ⟨by rfl, ?_⟩) ?_ ?_
        rotate_left
        ·intro w'
         go_simp
         with_reducible rfl
        rotate_left
        ·simp only [Act.put, Xa, Xb, Xc, i64_w, i32_w]
         rfl
        refine pure_ (i := 17) (N := some 51) (v := ?_) (a' := ?_) #[Zt,Zt,Zt,Zt,Zt,Zt,Zt,Zt,Zt,Zt,Zt,Zt,Zt,Zt,Zt,Zt,Zt,Zt,Zf] rfl rfl (any_of HT_.out (by kernel_rfl)) (fun _ _ _ h => h) (Or.inl ⟨by rfl, ?_⟩) ?_ ?_
        rotate_left
        ·intro w'
         go_simp
         with_reducible rfl
        rotate_left
        ·simp only [Act.put, Xa, Xb, Xc, i64_w, i32_w]
         rfl
        refine pure_ (i := 18) (N := some 4) (v := ?_) (a' := ?_) #[Zt,Zt,Zt,Zt,Zt,Zt,Zt,Zt,Zt,Zt,Zt,Zt,Zt,Zt,Zt,Zt,Zt,Zt,Zt] rfl rfl (any_of HT_.out (by kernel_rfl)) (fun _ _ _ h => h) (Or.inl ⟨by rfl, ?_⟩) ?_ ?_
        rotate_left
        ·intro w'
         go_simp
         with_reducible rfl
        rotate_left
        ·simp only [Act.put, Xa, Xb, Xc, i64_w, i32_w]
         rfl
        refine done_ (done_of HT_.out (by kernel_rfl)) ?_
        try go_wp2
        go_ret
        exact ⟨by first | rfl | (simp [errW_none, errW_some] <;> rfl) | (simp [*, errW_none, errW_some] <;> rfl), by repeat (first | (with_reducible first | exact HB.out | apply below_alloc | apply pw_below_drewN | apply below_drew1 | refine below_set ?_ GE368.out | refine below_set ?_ GE369.out | refine below_set ?_ GE380.out | refine below_set ?_ GE389.out) | exact HB.out)⟩
      ·replace c47 := Bool.eq_false_iff.mpr c47
       subst c47
       have H1 : (some Zt) = some r := by rw [if_neg (show ¬ (Zf = Zt) by decide)] at H; exact H
       clear H
       have H := H1
       clear H1
       obtain rfl := Option.some.inj H
       try go_wp2
       have n0_ := Za (Xe BK368.out)
       have n1_ := Za (Xe BK369.out)
       have n2_ := Za (Xe BK380.out)
       have n3_ := Za (Xe BK389.out)
       have n4_ := Za (below_drew1 HB.out)
       clear BK368
       clear BK369
       clear BK380
       clear BK389
       clear HB
       have BK368 := n0_
       have BK369 := n1_
       have BK380 := n2_
       have BK389 := n3_
       have HB := n4_
       clear n0_ n1_ n2_ n3_ n4_
       refine start_ (n := 19) (S := fun w' => True) (ds := []) #[Zf,Zf,Zf,Zf,Zf,Zf,Zf,Zf,Zf,Zf,Zf,Zf,Zf,Zf,Zf,Zf,Zf,Zf,Zf] (by kernel_rfl) rfl rfl trivial (fun hHeld => ?_); refine with_tabW gatherumlaw38_LayerKeeps.tab9 gatherumlaw38_LayerKeeps.bits9 (fun HT_ HW_ => ?_)
       generalize wc.drew = w62 at BK368 BK369 BK380 BK389 HB hHeld ⊢
       refine pure_ (i := 0) (N := some 34) (v := ?_) (a' := ?_) #[Zt,Zf,Zf,Zf,Zf,Zf,Zf,Zf,Zf,Zf,Zf,Zf,Zf,Zf,Zf,Zf,Zf,Zf,Zf] rfl rfl (any_of HT_.out (by kernel_rfl)) (fun _ _ _ h => h) (Or.inl ⟨by rfl, ?_⟩) ?_ ?_
       rotate_left
       ·intro w'
        go_simp
        with_reducible rfl
       rotate_left
       ·simp only [Act.put, Xa, Xb, Xc, i64_w, i32_w]
        rfl
       refine pure_ (i := 1) (N := some 35) (v := ?_) (a' := ?_) #[Zt,Zt,Zf,Zf,Zf,Zf,Zf,Zf,Zf,Zf,Zf,Zf,Zf,Zf,Zf,Zf,Zf,Zf,Zf] rfl rfl (any_of HT_.out (by kernel_rfl)) (fun _ _ _ h => h) (Or.inl ⟨by rfl, ?_⟩) ?_ ?_
       rotate_left
       ·intro w'
        go_simp
        with_reducible rfl
       rotate_left
       ·simp only [Act.put, Xa, Xb, Xc, i64_w, i32_w]
        rfl
       refine pure_ (i := 2) (N := some 36) (v := ?_) (a' := ?_) #[Zt,Zt,Zt,Zf,Zf,Zf,Zf,Zf,Zf,Zf,Zf,Zf,Zf,Zf,Zf,Zf,Zf,Zf,Zf] rfl rfl (any_of HT_.out (by kernel_rfl)) (fun _ _ _ h => h) (Or.inl ⟨by rfl, ?_⟩) ?_ ?_
       rotate_left
       ·intro w'
        go_simp
        with_reducible rfl
       rotate_left
       ·simp only [Act.put, Xa, Xb, Xc, i64_w, i32_w]
        rfl
       refine pure_ (i := 3) (N := some 37) (v := undef) (a' := ?_) #[Zt,Zt,Zt,Zt,Zf,Zf,Zf,Zf,Zf,Zf,Zf,Zf,Zf,Zf,Zf,Zf,Zf,Zf,Zf] rfl rfl (any_of HT_.out (by kernel_rfl)) (fun _ _ _ h => h) (Or.inr ⟨by rfl, rfl⟩) ?_ ?_
       rotate_left
       ·simp only [Act.put, Xa, Xb, Xc, i64_w, i32_w]
        rfl
       refine pure_ (i := 4) (N := some 38) (v := undef) (a' := ?_) #[Zt,Zt,Zt,Zt,Zt,Zf,Zf,Zf,Zf,Zf,Zf,Zf,Zf,Zf,Zf,Zf,Zf,Zf,Zf] rfl rfl (any_of HT_.out (by kernel_rfl)) (fun _ _ _ h => h) (Or.inr ⟨by rfl, rfl⟩) ?_ ?_
       rotate_left
       ·simp only [Act.put, Xa, Xb, Xc, i64_w, i32_w]
        rfl
       refine pure_ (i := 5) (N := some 39) (v := undef) (a' := ?_) #[Zt,Zt,Zt,Zt,Zt,Zt,Zf,Zf,Zf,Zf,Zf,Zf,Zf,Zf,Zf,Zf,Zf,Zf,Zf] rfl rfl (any_of HT_.out (by kernel_rfl)) (fun _ _ _ h => h) (Or.inr ⟨by rfl, rfl⟩) ?_ ?_
       rotate_left
       ·simp only [Act.put, Xa, Xb, Xc, i64_w, i32_w]
        rfl
       refine pure_ (i := 6) (N := some 40) (v := undef) (a' := ?_) #[Zt,Zt,Zt,Zt,Zt,Zt,Zt,Zf,Zf,Zf,Zf,Zf,Zf,Zf,Zf,Zf,Zf,Zf,Zf] rfl rfl (any_of HT_.out (by kernel_rfl)) (fun _ _ _ h => h) (Or.inr ⟨by rfl, rfl⟩) ?_ ?_
       rotate_left
       ·simp only [Act.put, Xa, Xb, Xc, i64_w, i32_w]
        rfl
       refine pure_ (i := 7) (N := some 41) (v := undef) (a' := ?_) #[Zt,Zt,Zt,Zt,Zt,Zt,Zt,Zt,Zf,Zf,Zf,Zf,Zf,Zf,Zf,Zf,Zf,Zf,Zf] rfl rfl (any_of HT_.out (by kernel_rfl)) (fun _ _ _ h => h) (Or.inr ⟨by rfl, rfl⟩) ?_ ?_
       rotate_left
       ·simp only [Act.put, Xa, Xb, Xc, i64_w, i32_w]
        rfl
       refine pure_ (i := 8) (N := some 42) (v := undef) (a' := ?_) #[Zt,Zt,Zt,Zt,Zt,Zt,Zt,Zt,Zt,Zf,Zf,Zf,Zf,Zf,Zf,Zf,Zf,Zf,Zf] rfl rfl (any_of HT_.out (by kernel_rfl)) (fun _ _ _ h => h) (Or.inr ⟨by rfl, rfl⟩) ?_ ?_
       rotate_left
       ·simp only [Act.put, Xa, Xb, Xc, i64_w, i32_w]
        rfl
       refine pure_ (i := 9) (N := some 43) (v := undef) (a' := ?_) #[Zt,Zt,Zt,Zt,Zt,Zt,Zt,Zt,Zt,Zt,Zf,Zf,Zf,Zf,Zf,Zf,Zf,Zf,Zf] rfl rfl (any_of HT_.out (by kernel_rfl)) (fun _ _ _ h => h) (Or.inr ⟨by rfl, rfl⟩) ?_ ?_
       rotate_left
       ·simp only [Act.put, Xa, Xb, Xc, i64_w, i32_w]
        rfl
       refine pure_ (i := 10) (N := some 44) (v := undef) (a' := ?_) #[Zt,Zt,Zt,Zt,Zt,Zt,Zt,Zt,Zt,Zt,Zt,Zf,Zf,Zf,Zf,Zf,Zf,Zf,Zf] rfl rfl (any_of HT_.out (by kernel_rfl)) (fun _ _ _ h => h) (Or.inr ⟨by rfl, rfl⟩) ?_ ?_
       rotate_left
       ·simp only [Act.put, Xa, Xb, Xc, i64_w, i32_w]
        rfl
       refine pure_ (i := 11) (N := some 45) (v := undef) (a' := ?_) #[Zt,Zt,Zt,Zt,Zt,Zt,Zt,Zt,Zt,Zt,Zt,Zt,Zf,Zf,Zf,Zf,Zf,Zf,Zf] rfl rfl (any_of HT_.out (by kernel_rfl)) (fun _ _ _ h => h) (Or.inr ⟨by rfl, rfl⟩) ?_ ?_
       rotate_left
       ·simp only [Act.put, Xa, Xb, Xc, i64_w, i32_w]
        rfl
       refine pure_ (i := 12) (N := some 46) (v := undef) (a' := ?_) #[Zt,Zt,Zt,Zt,Zt,Zt,Zt,Zt,Zt,Zt,Zt,Zt,Zt,Zf,Zf,Zf,Zf,Zf,Zf] rfl rfl (any_of HT_.out (by kernel_rfl)) (fun _ _ _ h => h) (Or.inr ⟨by rfl, rfl⟩) ?_ ?_
       rotate_left
       ·simp only [Act.put, Xa, Xb, Xc, i64_w, i32_w]
        rfl
       refine pure_ (i := 13) (N := some 47) (v := undef) (a' := ?_) #[Zt,Zt,Zt,Zt,Zt,Zt,Zt,Zt,Zt,Zt,Zt,Zt,Zt,Zt,Zf,Zf,Zf,Zf,Zf] rfl rfl (any_of HT_.out (by kernel_rfl)) (fun _ _ _ h => h) (Or.inr ⟨by rfl, rfl⟩) ?_ ?_
       rotate_left
       ·simp only [Act.put, Xa, Xb, Xc, i64_w, i32_w]
        rfl
       refine pure_ (i := 14) (N := some 48) (v := undef) (a' := ?_) #[Zt,Zt,Zt,Zt,Zt,Zt,Zt,Zt,Zt,Zt,Zt,Zt,Zt,Zt,Zt,Zf,Zf,Zf,Zf] rfl rfl (any_of HT_.out (by kernel_rfl)) (fun _ _ _ h => h) (Or.inr ⟨by rfl, rfl⟩) ?_ ?_
       rotate_left
       ·simp only [Act.put, Xa, Xb, Xc, i64_w, i32_w]
        rfl
       refine pure_ (i := 15) (N := some 49) (v := undef) (a' := ?_) #[Zt,Zt,Zt,Zt,Zt,Zt,Zt,Zt,Zt,Zt,Zt,Zt,Zt,Zt,Zt,Zt,Zf,Zf,Zf] rfl rfl (any_of HT_.out (by kernel_rfl)) (fun _ _ _ h => h) (Or.inr ⟨by rfl, rfl⟩) ?_ ?_
       rotate_left
       ·simp only [Act.put, Xa, Xb, Xc, i64_w, i32_w]
        rfl
       refine pure_ (i := 16) (N := some 50) (v := undef) (a' := ?_) #[Zt,Zt,Zt,Zt,Zt,Zt,Zt,Zt,Zt,Zt,Zt,Zt,Zt,Zt,Zt,Zt,Zt,Zf,Zf] rfl rfl (any_of HT_.out (by kernel_rfl)) (fun _ _ _ h => h) (Or.inr ⟨by rfl, rfl⟩) ?_ ?_
       rotate_left
       ·simp only [Act.put, Xa, Xb, Xc, i64_w, i32_w]
        rfl
       refine pure_ (i := 17) (N := some 51) (v := ?_) (a' := ?_) #[Zt,Zt,Zt,Zt,Zt,Zt,Zt,Zt,Zt,Zt,Zt,Zt,Zt,Zt,Zt,Zt,Zt,Zt,Zf] rfl rfl (any_of HT_.out (by kernel_rfl)) (fun _ _ _ h => h) (Or.inl ⟨by rfl, ?_⟩) ?_ ?_
       rotate_left
       ·intro w'
        go_simp
        with_reducible rfl
       rotate_left
       ·simp only [Act.put, Xa, Xb, Xc, i64_w, i32_w]
        rfl
       refine pure_ (i := 18) (N := some 4) (v := ?_) (a' := ?_) #[Zt,Zt,Zt,Zt,Zt,Zt,Zt,Zt,Zt,Zt,Zt,Zt,Zt,Zt,Zt,Zt,Zt,Zt,Zt] rfl rfl (any_of HT_.out (by kernel_rfl)) (fun _ _ _ h => h) (Or.inl ⟨by rfl, ?_⟩) ?_ ?_
       rotate_left
       ·intro w'
        go_simp
        with_reducible rfl
       rotate_left
       ·simp only [Act.put, Xa, Xb, Xc, i64_w, i32_w]
        rfl
       refine done_ (done_of HT_.out (by kernel_rfl)) ?_
       try go_wp2
       go_ret
       exact ⟨by first | rfl | (simp [errW_none, errW_some] <;> rfl) | (simp [*, errW_none, errW_some] <;> rfl), by repeat (first | (with_reducible first | exact HB.out | apply below_alloc | apply pw_below_drewN | apply below_drew1 | refine below_set ?_ GE368.out | refine below_set ?_ GE369.out | refine below_set ?_ GE380.out | refine below_set ?_ GE389.out) | exact HB.out)⟩
  ·replace c6 := Bool.eq_false_iff.mpr c6
   subst c6
   have H1 : (some Zt) = some r := by rw [if_neg (show ¬ (Zf = Zt) by decide)] at H; exact H
   clear H
   have H := H1
   clear H1
   obtain rfl := Option.some.inj H
   go_enter Try.func14, Try.ntmps14
   go_wp2_with (first | ((with_reducible refine gate_dst (N := 2) rfl ?_); refine box_event ?hg (N := 2) ?hd (cs := #[.int .i64 a0_0, .int .i64 a0_1, .int .i64 a0_2, .int .i64 a0_3, .int .i64 a0_4, .int .i64 a0_5, .int .i64 a0_6]) (t := 55) ?hr ?_; (case hd => rfl); (case hg => rfl); (case hr => first | (go_simp; done) | (go_simp; rfl)); intro gb368 hg w63 hbox hb; have n0_ := Za (below_step (hb_16 HB.out) hb); have n1_ := Za (hbox); have n2_ := Za ((by rw [hg]; exact (below_size (hb_16 HB.out)) : w.heap.size ≤ gb368)); have n3_ := Za ((by rw [hg]; exact (below_size (hb_16 HB.out)) : w.heap.size ≤ gb368)); clear HB; have HB := n0_; have BK368 := n1_; have GW368 := n2_; have GE368 := n3_; clear n0_ n1_ n2_ n3_; clear hb hbox hg) | ((with_reducible refine gate_dst (N := 3) rfl ?_); refine box_event ?hg (N := 3) ?hd (cs := #[.int .i64 a1_0, .int .i64 a1_1, .int .i64 a1_2, .int .i64 a1_3]) (t := 37) ?hr ?_; (case hd => rfl); (case hg => rfl); (case hr => first | (go_simp; done) | (go_simp; rfl)); intro gb369 hg w64 hbox hb; have n0_ := Za (Xi (g := gb368) (o := .cells #[.int .i64 a0_0, .int .i64 a0_1, .int .i64 a0_2, .int .i64 a0_3, .int .i64 a0_4, .int .i64 a0_5, .int .i64 a0_6] 55 (0, 0)) (bb_16 BK368.out) hb); have n1_ := Za (below_step (hb_16 HB.out) hb); have n2_ := Za (hbox); have n3_ := Za ((by rw [hg]; exact (below_size (hb_16 HB.out)) : w.heap.size ≤ gb369)); have n4_ := Za ((by rw [hg]; exact (below_size (hb_16 HB.out)) : w.heap.size ≤ gb369)); have n5_ := Za ((by rw [hg]; exact Nat.ne_of_lt (blk_lt (g := gb368) (o := .cells #[.int .i64 a0_0, .int .i64 a0_1, .int .i64 a0_2, .int .i64 a0_3, .int .i64 a0_4, .int .i64 a0_5, .int .i64 a0_6] 55 (0, 0)) (bb_16 BK368.out)) : gb368 ≠ gb369)); have n6_ := Za ((by rw [hg]; exact Nat.ne_of_gt (blk_lt (g := gb368) (o := .cells #[.int .i64 a0_0, .int .i64 a0_1, .int .i64 a0_2, .int .i64 a0_3, .int .i64 a0_4, .int .i64 a0_5, .int .i64 a0_6] 55 (0, 0)) (bb_16 BK368.out)) : gb369 ≠ gb368)); clear BK368; clear HB; have BK368 := n0_; have HB := n1_; have BK369 := n2_; have GW369 := n3_; have GE369 := n4_; have NB368_369 := n5_; have NB369_368 := n6_; clear n0_ n1_ n2_ n3_ n4_ n5_ n6_; clear hb hbox hg) | ((with_reducible refine gate_callee (f := 36) rfl ?_); refine goesL_ (some 9) rfl rfl Try.func36 (by kernel_rfl) rfl #[] rfl (by (try simp only [List.map_toArray, List.map_cons, List.map_nil]); first | done | rfl | (simp only [List.length_drop, List.length_take]; rfl)) ?_; (with_reducible refine (gatherumlaw38_alive.calls k  Zt _ A3.out).mono ?_); rintro e w65 ⟨rfl, hb⟩; refine ⟨_, rfl, ?_⟩; have n0_ := Za (Xi (g := gb368) (o := .cells #[.int .i64 a0_0, .int .i64 a0_1, .int .i64 a0_2, .int .i64 a0_3, .int .i64 a0_4, .int .i64 a0_5, .int .i64 a0_6] 55 (0, 0)) (bb_16 BK368.out) hb); have n1_ := Za (Xi (g := gb369) (o := .cells #[.int .i64 a1_0, .int .i64 a1_1, .int .i64 a1_2, .int .i64 a1_3] 37 (0, 0)) (bb_16 BK369.out) hb); have n2_ := Za (below_step (hb_16 HB.out) hb); clear BK368; clear BK369; clear HB; have BK368 := n0_; have BK369 := n1_; have HB := n2_; clear n0_ n1_ n2_; (try clear hb); (try clear hb2); (try clear hk); (try clear hi); have hnb66 := NB368_369.out; have hnc66 := NB369_368.out; have hcz67_0 : w65.cell? ⟨gb368, 0, none⟩ = some (.int .i64 a0_0) := (Xd BK368.out 0).trans rfl; have hcz67_1 : w65.cell? ⟨gb368, 1, none⟩ = some (.int .i64 a0_1) := (Xd BK368.out 1).trans rfl; have hcz67_2 : w65.cell? ⟨gb368, 2, none⟩ = some (.int .i64 a0_2) := (Xd BK368.out 2).trans rfl; have hcz67_3 : w65.cell? ⟨gb368, 3, none⟩ = some (.int .i64 a0_3) := (Xd BK368.out 3).trans rfl; have hcz67_4 : w65.cell? ⟨gb368, 4, none⟩ = some (.int .i64 a0_4) := (Xd BK368.out 4).trans rfl; have hcz67_5 : w65.cell? ⟨gb368, 5, none⟩ = some (.int .i64 a0_5) := (Xd BK368.out 5).trans rfl; have hcz67_6 : w65.cell? ⟨gb368, 6, none⟩ = some (.int .i64 a0_6) := (Xd BK368.out 6).trans rfl; have hfz67_0 := Xh BK368.out 0; have hfz67_1 := Xh BK368.out 1; have hfz67_2 := Xh BK368.out 2; have hfz67_3 := Xh BK368.out 3; have hfz67_4 := Xh BK368.out 4; have hfz67_5 := Xh BK368.out 5; have hfz67_6 := Xh BK368.out 6) | ((with_reducible refine gate_callee (f := 43) rfl ?_); refine goesL_ (some 12) rfl rfl Try.func43 (by kernel_rfl) rfl #[.agg #[.int .i64 a0_0, .int .i64 a0_1, .int .i64 a0_2, .int .i64 a0_3, .int .i64 a0_4, .int .i64 a0_5, .int .i64 a0_6]] rfl (by (try simp only [List.map_toArray, List.map_cons, List.map_nil]); first | done | rfl | (simp only [List.length_drop, List.length_take]; rfl)) ?_; (with_reducible refine (gatherumlaw38_near.calls a0_0 a0_1 a0_2 a0_3 a0_4 a0_5 a0_6 Zf _ A5.out).mono ?_); rintro e w68 ⟨rfl, hb⟩; refine ⟨_, rfl, ?_⟩; have n0_ := Za (Xi (g := gb368) (o := .cells #[.int .i64 a0_0, .int .i64 a0_1, .int .i64 a0_2, .int .i64 a0_3, .int .i64 a0_4, .int .i64 a0_5, .int .i64 a0_6] 55 (0, 0)) (bb_16 BK368.out) hb); have n1_ := Za (Xi (g := gb369) (o := .cells #[.int .i64 a1_0, .int .i64 a1_1, .int .i64 a1_2, .int .i64 a1_3] 37 (0, 0)) (bb_16 BK369.out) hb); have n2_ := Za (below_step (hb_16 HB.out) hb); clear BK368; clear BK369; clear HB; have BK368 := n0_; have BK369 := n1_; have HB := n2_; clear n0_ n1_ n2_; (try clear hb); (try clear hb2); (try clear hk); (try clear hi)))
   go_ret
   exact ⟨by first | rfl | (simp [errW_none, errW_some] <;> rfl) | (simp [*, errW_none, errW_some] <;> rfl), by repeat (first | (with_reducible first | exact HB.out | apply below_alloc | apply pw_below_drewN | apply below_drew1 | refine below_set ?_ GE368.out | refine below_set ?_ GE369.out) | exact HB.out)⟩
 ·replace c4 := Bool.eq_false_iff.mpr c4
  subst c4
  have H1 : (some Zf) = some r := by rw [if_neg (show ¬ (Zf = Zt) by decide)] at H; exact H
  clear H
  have H := H1
  clear H1
  obtain rfl := Option.some.inj H
  go_enter Try.func14, Try.ntmps14
  go_wp2_with (first | ((with_reducible refine gate_dst (N := 2) rfl ?_); refine box_event ?hg (N := 2) ?hd (cs := #[.int .i64 a0_0, .int .i64 a0_1, .int .i64 a0_2, .int .i64 a0_3, .int .i64 a0_4, .int .i64 a0_5, .int .i64 a0_6]) (t := 55) ?hr ?_; (case hd => rfl); (case hg => rfl); (case hr => first | (go_simp; done) | (go_simp; rfl)); intro gb368 hg w69 hbox hb; have n0_ := Za (below_step (hb_16 HB.out) hb); have n1_ := Za (hbox); have n2_ := Za ((by rw [hg]; exact (below_size (hb_16 HB.out)) : w.heap.size ≤ gb368)); have n3_ := Za ((by rw [hg]; exact (below_size (hb_16 HB.out)) : w.heap.size ≤ gb368)); clear HB; have HB := n0_; have BK368 := n1_; have GW368 := n2_; have GE368 := n3_; clear n0_ n1_ n2_ n3_; clear hb hbox hg) | ((with_reducible refine gate_dst (N := 3) rfl ?_); refine box_event ?hg (N := 3) ?hd (cs := #[.int .i64 a1_0, .int .i64 a1_1, .int .i64 a1_2, .int .i64 a1_3]) (t := 37) ?hr ?_; (case hd => rfl); (case hg => rfl); (case hr => first | (go_simp; done) | (go_simp; rfl)); intro gb369 hg w70 hbox hb; have n0_ := Za (Xi (g := gb368) (o := .cells #[.int .i64 a0_0, .int .i64 a0_1, .int .i64 a0_2, .int .i64 a0_3, .int .i64 a0_4, .int .i64 a0_5, .int .i64 a0_6] 55 (0, 0)) (bb_16 BK368.out) hb); have n1_ := Za (below_step (hb_16 HB.out) hb); have n2_ := Za (hbox); have n3_ := Za ((by rw [hg]; exact (below_size (hb_16 HB.out)) : w.heap.size ≤ gb369)); have n4_ := Za ((by rw [hg]; exact (below_size (hb_16 HB.out)) : w.heap.size ≤ gb369)); have n5_ := Za ((by rw [hg]; exact Nat.ne_of_lt (blk_lt (g := gb368) (o := .cells #[.int .i64 a0_0, .int .i64 a0_1, .int .i64 a0_2, .int .i64 a0_3, .int .i64 a0_4, .int .i64 a0_5, .int .i64 a0_6] 55 (0, 0)) (bb_16 BK368.out)) : gb368 ≠ gb369)); have n6_ := Za ((by rw [hg]; exact Nat.ne_of_gt (blk_lt (g := gb368) (o := .cells #[.int .i64 a0_0, .int .i64 a0_1, .int .i64 a0_2, .int .i64 a0_3, .int .i64 a0_4, .int .i64 a0_5, .int .i64 a0_6] 55 (0, 0)) (bb_16 BK368.out)) : gb369 ≠ gb368)); clear BK368; clear HB; have BK368 := n0_; have HB := n1_; have BK369 := n2_; have GW369 := n3_; have GE369 := n4_; have NB368_369 := n5_; have NB369_368 := n6_; clear n0_ n1_ n2_ n3_ n4_ n5_ n6_; clear hb hbox hg) | ((with_reducible refine gate_callee (f := 36) rfl ?_); refine goesL_ (some 9) rfl rfl Try.func36 (by kernel_rfl) rfl #[] rfl (by (try simp only [List.map_toArray, List.map_cons, List.map_nil]); first | done | rfl | (simp only [List.length_drop, List.length_take]; rfl)) ?_; (with_reducible refine (gatherumlaw38_alive.calls k  Zf _ A3.out).mono ?_); rintro e w71 ⟨rfl, hb⟩; refine ⟨_, rfl, ?_⟩; have n0_ := Za (Xi (g := gb368) (o := .cells #[.int .i64 a0_0, .int .i64 a0_1, .int .i64 a0_2, .int .i64 a0_3, .int .i64 a0_4, .int .i64 a0_5, .int .i64 a0_6] 55 (0, 0)) (bb_16 BK368.out) hb); have n1_ := Za (Xi (g := gb369) (o := .cells #[.int .i64 a1_0, .int .i64 a1_1, .int .i64 a1_2, .int .i64 a1_3] 37 (0, 0)) (bb_16 BK369.out) hb); have n2_ := Za (below_step (hb_16 HB.out) hb); clear BK368; clear BK369; clear HB; have BK368 := n0_; have BK369 := n1_; have HB := n2_; clear n0_ n1_ n2_; (try clear hb); (try clear hb2); (try clear hk); (try clear hi)))
  go_ret
  exact ⟨by first | rfl | (simp [errW_none, errW_some] <;> rfl) | (simp [*, errW_none, errW_some] <;> rfl), by repeat (first | (with_reducible first | exact HB.out | apply below_alloc | apply pw_below_drewN | apply below_drew1 | refine below_set ?_ GE368.out | refine below_set ?_ GE369.out) | exact HB.out)⟩

end Go.Proofs.Ythgmjhidigoneaa.PLayerKeeps
