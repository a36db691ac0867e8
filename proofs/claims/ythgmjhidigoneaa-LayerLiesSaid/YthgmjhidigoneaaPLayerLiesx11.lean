import Derived.Test.YthgmjhidigoneaaPLayerLiesx0
import Derived.Test.YthgmjhidigoneaaPLayerLiesx1
import Derived.Test.YthgmjhidigoneaaPLayerLiesx2
import Derived.Test.YthgmjhidigoneaaPLayerLiesx4
import Derived.Test.YthgmjhidigoneaaPLayerLiesx6
import Derived.Test.YthgmjhidigoneaaPLayerLiesx8
import Derived.Test.YthgmjhidigoneaaPLayerLiesx9
import Derived.Test.YthgmjhidigoneaaPLayerLiesx10
namespace Go.Proofs.Ythgmjhidigoneaa.PLayerLies
open Go.RowKit Go.Proofs.YthgmjhidigoneaaW.PrintWords Go.Proofs.YthgmjhidigoneaaW.PrintLast Go.Proofs.YthgmjhidigoneaaW.PrintMore
open Bool renaming true → Zt, false → Zf
open Go.Proofs.YthgmjhidigoneaaW.PrintWords.Aside0 renaming mk → Za
open List renaming setIfInBounds_toArray → Xa, set_cons_zero → Xb, set_cons_succ → Xc
open Go.Proofs.YthgmjhidigoneaaW.PrintWords renaming blk_cell → Xd, blk_drewN → Xe, blk_drew → Xf, blk_alloc → Xg, blk_frozen → Xj, blk_below → Xl, blk_far → Xn, below_step → Xo, below_size → Xp
open Go.Proofs.YthgmjhidigoneaaW.PrintLast renaming i64_w → Xh, i32_w → Xi, any_of → Xk, pure_ → Xm
attribute [local go_sem] max2_int min2_int max_two min_two max_three min_three max_four min_four   -- for this text's walks alone
set_option linter.unusedVariables false
set_option linter.unusedSimpArgs false
theorem bb_11 {p q : Prop} (h : q) (f : q → p := by intro h_; (with_reducible repeat (first | refine blk_drewN ?_ _ | refine blk_drew ?_ | refine blk_alloc ?_ _)); exact h_) : p := f h
theorem hb_11 {B : Nat} {w W W1 : World} (h : Below B w W) (f : Below B w W → Below B w W1 := by intro h_; repeat (first | (with_reducible first | exact h_ | apply below_alloc | apply pw_below_drewN | apply below_drew1 | refine below_set ?_ (Aside0.out (by assumption))) | exact h_)) : Below B w W1 := f h

attribute [local go_sem high] eqA37 eqA55
/-! ### gatherumlaw38_LayerLies: function 6 -/
def gatherumlaw38_LayerLies.f (k : Nat) (a0_0 : Int) (a0_1 : Int) (a0_2 : Int) (a0_3 : Int) (a0_4 : Int) (a0_5 : Int) (a0_6 : Int) (a1_0 : Int) (a1_1 : Int) (a1_2 : Int) : Option (Bool) := (gatherumlaw38_alive.f k).bind fun t301 => (if t301 = Zt then ((layer_Lay.f k a0_0 a0_1 a0_2 a0_3 a0_4 a0_5 a0_6 a1_0 a1_1 a1_2).bind fun bt302 => ((layer_Of.f a0_0 a0_1 a0_2 a0_3).bind fun bt310 => (if ((bt310.1 == a0_0 && (bt310.2.1 == a0_1 && (bt310.2.2.1 == a0_2 && (bt310.2.2.2.1 == a0_3)))) && ((bt310.2.2.2.2.1 == 0 && (bt310.2.2.2.2.2.1 == 0 && (bt310.2.2.2.2.2.2 == 0))))) = Zt then ((layer_Lies.f k a0_0 a0_1 a0_2 a0_3 a0_4 a0_5 a0_6).bind fun bt317 => ((gatherumref38_Lies.f k a0_0 a0_1 a0_2 a0_3 a0_4 a0_5 a0_6).bind fun bt321 => (if (bt317.1 == bt321.1 && (bt317.2.1 == bt321.2.1 && (bt317.2.2.1 == bt321.2.2.1 && (bt317.2.2.2 == bt321.2.2.2)))) = Zt then ((layer_Up.f a0_0 a0_1 a0_2 a0_3 a0_4 a0_5 a0_6).bind fun t325 => (if (t325 == ((Go.bits .and .i64 a0_4 4) == 0)) = Zt then ((gatherumref04_Then.f k a0_4 a0_5 a0_6 a1_0 a1_1 a1_2).bind fun bt326 => (some ((bt302.1 == a0_0 && (bt302.2.1 == a0_1 && (bt302.2.2.1 == a0_2 && (bt302.2.2.2.1 == a0_3)))) && ((bt302.2.2.2.2.1 == bt326.1 && (bt302.2.2.2.2.2.1 == bt326.2.1 && (bt302.2.2.2.2.2.2 == bt326.2.2))))))) else (some Zf))) else (some Zf)))) else (some Zf)))) else (some Zf))
theorem gatherumlaw38_LayerLies.mono : ∀ a0 a1 a2 a3 a4 a5 a6 a7 a8 a9 k, LeO (gatherumlaw38_LayerLies.f k a0 a1 a2 a3 a4 a5 a6 a7 a8 a9) (gatherumlaw38_LayerLies.f (k + 1) a0 a1 a2 a3 a4 a5 a6 a7 a8 a9) := by
 intro a0 a1 a2 a3 a4 a5 a6 a7 a8 a9 k
 unfold gatherumlaw38_LayerLies.f
 repeat' first
   | (with_reducible exact gatherumlaw38_alive.mono _)
   | (with_reducible exact gatherumref04_Then.mono _ _ _ _ _ _ _)
   | (with_reducible exact gatherumref38_Lies.mono _ _ _ _ _ _ _ _)
   | (with_reducible exact layer_Lay.mono _ _ _ _ _ _ _ _ _ _ _)
   | (with_reducible exact layer_Lies.mono _ _ _ _ _ _ _ _)
   | (with_reducible exact LeO.refl _)
   | (with_reducible exact LeO.none _)
   | (with_reducible refine LeO.ite ?_ ?_)
   | (with_reducible refine LeO.bind ?_ (fun _ => ?_))
   | exact gatherumlaw38_alive.mono _
   | exact gatherumref04_Then.mono _ _ _ _ _ _ _
   | exact gatherumref38_Lies.mono _ _ _ _ _ _ _ _
   | exact layer_Lay.mono _ _ _ _ _ _ _ _ _ _ _
   | exact layer_Lies.mono _ _ _ _ _ _ _ _
   | exact LeO.none _
   | refine LeO.ite ?_ ?_
   | refine LeO.bind ?_ (fun _ => ?_)
def gatherumlaw38_LayerLies.T4 : Bool × List (List Nat × List Nat) := (Zt, [([], []), ([0], [0]), ([1], [1]), ([], []), ([3], [3]), ([4], [4]), ([2, 5], [2, 5]), ([6, 2], [6]), ([7], [7]), ([8, 7, 7], [7, 8]), ([7], [7]), ([10, 9, 7], [7, 10]), ([9, 11, 7], [7, 9, 11]), ([7, 12], [7, 12]), ([13, 11], [13]), ([14], [14]), ([15, 14, 14], [14, 15]), ([14], [14]), ([17, 14], [14, 17]), ([18, 14], [14, 18]), ([19, 14], [14, 19]), ([20, 14], [14, 20]), ([16, 21, 14], [14, 16, 21]), ([14, 22], [14, 22]), ([23, 16], [23]), ([24], [24]), ([24], [24]), ([26, 24], [24, 26]), ([24], [24]), ([28, 24], [24, 28]), ([24], [24]), ([29, 30, 24, 24], [24, 29, 30]), ([27, 31, 24], [24, 27, 31]), ([25, 32, 24], [24, 25, 32]), ([24, 33], [24, 33]), ([34, 31, 0, 1, 2, 3, 4, 5, 6, 7, 8, 9, 10, 11, 12, 13, 14, 15, 16, 17, 18, 19, 20, 21, 22, 23, 24, 25, 26, 27, 28, 29, 30, 31, 32, 33, 34], [34])])
def gatherumlaw38_LayerLies.B4 : List Nat := [0, 1, 3, 0, 8, 24, 63, 127, 255, 511, 255, 2047, 4095, 8191, 16383, 32767, 65535, 32767, 163839, 425983, 950271, 1998847, 4194303, 8388607, 16777215, 33554431, 33554431, 100663295, 33554431, 301989887, 33554431, 1912602623, 4261412863, 8589934591, 17179869183, 34359738367]
theorem gatherumlaw38_LayerLies.tab4 : rtab .any (opsOf Try.f6 4) = gatherumlaw38_LayerLies.T4 := by kernel_rfl
theorem gatherumlaw38_LayerLies.bits4 : waitsOk gatherumlaw38_LayerLies.T4.2 gatherumlaw38_LayerLies.B4 = Zt := by kernel_rfl
set_option maxHeartbeats 8000000 in
set_option maxRecDepth 100000 in
theorem gatherumlaw38_LayerLies.calls (k : Nat) (a0_0 : Int) (a0_1 : Int) (a0_2 : Int) (a0_3 : Int) (a0_4 : Int) (a0_5 : Int) (a0_6 : Int) (a1_0 : Int) (a1_1 : Int) (a1_2 : Int) (r : Bool) (w : World) (h : gatherumlaw38_LayerLies.f k a0_0 a0_1 a0_2 a0_3 a0_4 a0_5 a0_6 a1_0 a1_1 a1_2 = some r) :
  Calls Try.prog 6 #[.agg #[.int .i64 a0_0, .int .i64 a0_1, .int .i64 a0_2, .int .i64 a0_3, .int .i64 a0_4, .int .i64 a0_5, .int .i64 a0_6], .agg #[.int .i64 a1_0, .int .i64 a1_1, .int .i64 a1_2]] w fun e w' => e = .returned (.bool r) ∧ Below w.heap.size w w' := by
 have hu55 := Try.underlying55
 have hu32 := Try.underlying32
 have hu37 := Try.underlying37
 have HB := Za (Below.refl w.heap.size w)
 have H : ((gatherumlaw38_alive.f k).bind fun t301 => (if t301 = Zt then ((layer_Lay.f k a0_0 a0_1 a0_2 a0_3 a0_4 a0_5 a0_6 a1_0 a1_1 a1_2).bind fun bt302 => ((layer_Of.f a0_0 a0_1 a0_2 a0_3).bind fun bt310 => (if ((bt310.1 == a0_0 && (bt310.2.1 == a0_1 && (bt310.2.2.1 == a0_2 && (bt310.2.2.2.1 == a0_3)))) && ((bt310.2.2.2.2.1 == 0 && (bt310.2.2.2.2.2.1 == 0 && (bt310.2.2.2.2.2.2 == 0))))) = Zt then ((layer_Lies.f k a0_0 a0_1 a0_2 a0_3 a0_4 a0_5 a0_6).bind fun bt317 => ((gatherumref38_Lies.f k a0_0 a0_1 a0_2 a0_3 a0_4 a0_5 a0_6).bind fun bt321 => (if (bt317.1 == bt321.1 && (bt317.2.1 == bt321.2.1 && (bt317.2.2.1 == bt321.2.2.1 && (bt317.2.2.2 == bt321.2.2.2)))) = Zt then ((layer_Up.f a0_0 a0_1 a0_2 a0_3 a0_4 a0_5 a0_6).bind fun t325 => (if (t325 == ((Go.bits .and .i64 a0_4 4) == 0)) = Zt then ((gatherumref04_Then.f k a0_4 a0_5 a0_6 a1_0 a1_1 a1_2).bind fun bt326 => (some ((bt302.1 == a0_0 && (bt302.2.1 == a0_1 && (bt302.2.2.1 == a0_2 && (bt302.2.2.2.1 == a0_3)))) && ((bt302.2.2.2.2.1 == bt326.1 && (bt302.2.2.2.2.2.1 == bt326.2.1 && (bt302.2.2.2.2.2.2 == bt326.2.2))))))) else (some Zf))) else (some Zf)))) else (some Zf)))) else (some Zf))) = some r := h
 clear h
 replace H := Option.bind_eq_some_iff.mp H
 obtain ⟨t301, A30, H⟩ := H
 replace H : (if t301 = Zt then ((layer_Lay.f k a0_0 a0_1 a0_2 a0_3 a0_4 a0_5 a0_6 a1_0 a1_1 a1_2).bind fun bt302 => ((layer_Of.f a0_0 a0_1 a0_2 a0_3).bind fun bt310 => (if ((bt310.1 == a0_0 && (bt310.2.1 == a0_1 && (bt310.2.2.1 == a0_2 && (bt310.2.2.2.1 == a0_3)))) && ((bt310.2.2.2.2.1 == 0 && (bt310.2.2.2.2.2.1 == 0 && (bt310.2.2.2.2.2.2 == 0))))) = Zt then ((layer_Lies.f k a0_0 a0_1 a0_2 a0_3 a0_4 a0_5 a0_6).bind fun bt317 => ((gatherumref38_Lies.f k a0_0 a0_1 a0_2 a0_3 a0_4 a0_5 a0_6).bind fun bt321 => (if (bt317.1 == bt321.1 && (bt317.2.1 == bt321.2.1 && (bt317.2.2.1 == bt321.2.2.1 && (bt317.2.2.2 == bt321.2.2.2)))) = Zt then ((layer_Up.f a0_0 a0_1 a0_2 a0_3 a0_4 a0_5 a0_6).bind fun t325 => (if (t325 == ((Go.bits .and .i64 a0_4 4) == 0)) = Zt then ((gatherumref04_Then.f k a0_4 a0_5 a0_6 a1_0 a1_1 a1_2).bind fun bt326 => (some ((bt302.1 == a0_0 && (bt302.2.1 == a0_1 && (bt302.2.2.1 == a0_2 && (bt302.2.2.2.1 == a0_3)))) && ((bt302.2.2.2.2.1 == bt326.1 && (bt302.2.2.2.2.2.1 == bt326.2.1 && (bt302.2.2.2.2.2.2 == bt326.2.2))))))) else (some Zf))) else (some Zf)))) else (some Zf)))) else (some Zf)) = some r := H
 have A3 := Za A30
 clear A30
 by_cases c4 : t301 = Zt
 ·subst c4
  have H1 : ((layer_Lay.f k a0_0 a0_1 a0_2 a0_3 a0_4 a0_5 a0_6 a1_0 a1_1 a1_2).bind fun bt302 => ((layer_Of.f a0_0 a0_1 a0_2 a0_3).bind fun bt310 => (if ((bt310.1 == a0_0 && (bt310.2.1 == a0_1 && (bt310.2.2.1 == a0_2 && (bt310.2.2.2.1 == a0_3)))) && ((bt310.2.2.2.2.1 == 0 && (bt310.2.2.2.2.2.1 == 0 && (bt310.2.2.2.2.2.2 == 0))))) = Zt then ((layer_Lies.f k a0_0 a0_1 a0_2 a0_3 a0_4 a0_5 a0_6).bind fun bt317 => ((gatherumref38_Lies.f k a0_0 a0_1 a0_2 a0_3 a0_4 a0_5 a0_6).bind fun bt321 => (if (bt317.1 == bt321.1 && (bt317.2.1 == bt321.2.1 && (bt317.2.2.1 == bt321.2.2.1 && (bt317.2.2.2 == bt321.2.2.2)))) = Zt then ((layer_Up.f a0_0 a0_1 a0_2 a0_3 a0_4 a0_5 a0_6).bind fun t325 => (if (t325 == ((Go.bits .and .i64 a0_4 4) == 0)) = Zt then ((gatherumref04_Then.f k a0_4 a0_5 a0_6 a1_0 a1_1 a1_2).bind fun bt326 => (some ((bt302.1 == a0_0 && (bt302.2.1 == a0_1 && (bt302.2.2.1 == a0_2 && (bt302.2.2.2.1 == a0_3)))) && ((bt302.2.2.2.2.1 == bt326.1 && (bt302.2.2.2.2.2.1 == bt326.2.1 && (bt302.2.2.2.2.2.2 == bt326.2.2))))))) else (some Zf))) else (some Zf)))) else (some Zf)))) = some r := by rw [if_pos rfl] at H; exact H
  clear H
  have H := H1
  clear H1
  replace H := Option.bind_eq_some_iff.mp H
  obtain ⟨⟨t302, t303, t304, t305, t306, t307, t308⟩, A50, H⟩ := H
  replace H : ((layer_Of.f a0_0 a0_1 a0_2 a0_3).bind fun bt310 => (if ((bt310.1 == a0_0 && (bt310.2.1 == a0_1 && (bt310.2.2.1 == a0_2 && (bt310.2.2.2.1 == a0_3)))) && ((bt310.2.2.2.2.1 == 0 && (bt310.2.2.2.2.2.1 == 0 && (bt310.2.2.2.2.2.2 == 0))))) = Zt then ((layer_Lies.f k a0_0 a0_1 a0_2 a0_3 a0_4 a0_5 a0_6).bind fun bt317 => ((gatherumref38_Lies.f k a0_0 a0_1 a0_2 a0_3 a0_4 a0_5 a0_6).bind fun bt321 => (if (bt317.1 == bt321.1 && (bt317.2.1 == bt321.2.1 && (bt317.2.2.1 == bt321.2.2.1 && (bt317.2.2.2 == bt321.2.2.2)))) = Zt then ((layer_Up.f a0_0 a0_1 a0_2 a0_3 a0_4 a0_5 a0_6).bind fun t325 => (if (t325 == ((Go.bits .and .i64 a0_4 4) == 0)) = Zt then ((gatherumref04_Then.f k a0_4 a0_5 a0_6 a1_0 a1_1 a1_2).bind fun bt326 => (some ((t302 == a0_0 && (t303 == a0_1 && (t304 == a0_2 && (t305 == a0_3)))) && ((t306 == bt326.1 && (t307 == bt326.2.1 && (t308 == bt326.2.2))))))) else (some Zf))) else (some Zf)))) else (some Zf))) = some r := H
  have A5 := Za A50
  clear A50
  replace H := Option.bind_eq_some_iff.mp H
  obtain ⟨⟨t310, t311, t312, t313, t314, t315, t316⟩, A60, H⟩ := H
  replace H : (if ((t310 == a0_0 && (t311 == a0_1 && (t312 == a0_2 && (t313 == a0_3)))) && ((t314 == 0 && (t315 == 0 && (t316 == 0))))) = Zt then ((layer_Lies.f k a0_0 a0_1 a0_2 a0_3 a0_4 a0_5 a0_6).bind fun bt317 => ((gatherumref38_Lies.f k a0_0 a0_1 a0_2 a0_3 a0_4 a0_5 a0_6).bind fun bt321 => (if (bt317.1 == bt321.1 && (bt317.2.1 == bt321.2.1 && (bt317.2.2.1 == bt321.2.2.1 && (bt317.2.2.2 == bt321.2.2.2)))) = Zt then ((layer_Up.f a0_0 a0_1 a0_2 a0_3 a0_4 a0_5 a0_6).bind fun t325 => (if (t325 == ((Go.bits .and .i64 a0_4 4) == 0)) = Zt then ((gatherumref04_Then.f k a0_4 a0_5 a0_6 a1_0 a1_1 a1_2).bind fun bt326 => (some ((t302 == a0_0 && (t303 == a0_1 && (t304 == a0_2 && (t305 == a0_3)))) && ((t306 == bt326.1 && (t307 == bt326.2.1 && (t308 == bt326.2.2))))))) else (some Zf))) else (some Zf)))) else (some Zf)) = some r := H
  have A6 := Za A60
  clear A60
  by_cases c7 : ((t310 == a0_0 && (t311 == a0_1 && (t312 == a0_2 && (t313 == a0_3)))) && ((t314 == 0 && (t315 == 0 && (t316 == 0))))) = Zt
  ·rw [if_pos c7] at H
   have c7b0 : ((t310 == a0_0 && (t311 == a0_1 && (t312 == a0_2 && (t313 == a0_3)))) && ((t314 == 0 && (t315 == 0 && (t316 == 0))))) = Zt := c7
   clear c7
   replace H := Option.bind_eq_some_iff.mp H
   obtain ⟨⟨t317, t318, t319, t320⟩, A80, H⟩ := H
   replace H : ((gatherumref38_Lies.f k a0_0 a0_1 a0_2 a0_3 a0_4 a0_5 a0_6).bind fun bt321 => (if (t317 == bt321.1 && (t318 == bt321.2.1 && (t319 == bt321.2.2.1 && (t320 == bt321.2.2.2)))) = Zt then ((layer_Up.f a0_0 a0_1 a0_2 a0_3 a0_4 a0_5 a0_6).bind fun t325 => (if (t325 == ((Go.bits .and .i64 a0_4 4) == 0)) = Zt then ((gatherumref04_Then.f k a0_4 a0_5 a0_6 a1_0 a1_1 a1_2).bind fun bt326 => (some ((t302 == a0_0 && (t303 == a0_1 && (t304 == a0_2 && (t305 == a0_3)))) && ((t306 == bt326.1 && (t307 == bt326.2.1 && (t308 == bt326.2.2))))))) else (some Zf))) else (some Zf))) = some r := H
   have A8 := Za A80
   clear A80
   replace H := Option.bind_eq_some_iff.mp H
   obtain ⟨⟨t321, t322, t323, t324⟩, A90, H⟩ := H
   replace H : (if (t317 == t321 && (t318 == t322 && (t319 == t323 && (t320 == t324)))) = Zt then ((layer_Up.f a0_0 a0_1 a0_2 a0_3 a0_4 a0_5 a0_6).bind fun t325 => (if (t325 == ((Go.bits .and .i64 a0_4 4) == 0)) = Zt then ((gatherumref04_Then.f k a0_4 a0_5 a0_6 a1_0 a1_1 a1_2).bind fun bt326 => (some ((t302 == a0_0 && (t303 == a0_1 && (t304 == a0_2 && (t305 == a0_3)))) && ((t306 == bt326.1 && (t307 == bt326.2.1 && (t308 == bt326.2.2))))))) else (some Zf))) else (some Zf)) = some r := H
   have A9 := Za A90
   clear A90
   by_cases c10 : (t317 == t321 && (t318 == t322 && (t319 == t323 && (t320 == t324)))) = Zt
   ·rw [if_pos c10] at H
    have c10b0 : (t317 == t321 && (t318 == t322 && (t319 == t323 && (t320 == t324)))) = Zt := c10
    (try (have c10b1 : decide (t317 = t321 && (t318 == t322 && (t319 == t323 && (t320 == t324)))) = Zt := by simpa using c10))
    (try (have c10b2 : (t317 == t321 && (t318 == t322 && (t319 == t323 && (t320 == t324)))) = Zt := by simpa using c10))
    clear c10
    replace H := Option.bind_eq_some_iff.mp H
    obtain ⟨t325, A110, H⟩ := H
    replace H : (if (t325 == ((Go.bits .and .i64 a0_4 4) == 0)) = Zt then ((gatherumref04_Then.f k a0_4 a0_5 a0_6 a1_0 a1_1 a1_2).bind fun bt326 => (some ((t302 == a0_0 && (t303 == a0_1 && (t304 == a0_2 && (t305 == a0_3)))) && ((t306 == bt326.1 && (t307 == bt326.2.1 && (t308 == bt326.2.2))))))) else (some Zf)) = some r := H
    have A11 := Za A110
    clear A110
    by_cases c12 : (t325 == ((Go.bits .and .i64 a0_4 4) == 0)) = Zt
    ·rw [if_pos c12] at H
     have c12b0 : (t325 == ((Go.bits .and .i64 a0_4 4) == 0)) = Zt := c12
     (try (have c12b1 : decide (t325 = ((Go.bits .and .i64 a0_4 4) == 0)) = Zt := by simpa using c12))
     (try (have c12b2 : (t325 == ((Go.bits .and .i64 a0_4 4) == 0)) = Zt := by simpa using c12))
     clear c12
     replace H := Option.bind_eq_some_iff.mp H
     obtain ⟨⟨t326, t327, t328⟩, A130, H⟩ := H
     replace H : (some ((t302 == a0_0 && (t303 == a0_1 && (t304 == a0_2 && (t305 == a0_3)))) && ((t306 == t326 && (t307 == t327 && (t308 == t328)))))) = some r := H
     have A13 := Za A130
     clear A130
     obtain rfl := Option.some.inj H
     go_enter Try.func6, Try.ntmps6
     try go_wp2_with (first | ((with_reducible refine gate_dst (N := 2) rfl ?_); refine box_event ?hg (N := 2) ?hd (cs := #[.int .i64 a0_0, .int .i64 a0_1, .int .i64 a0_2, .int .i64 a0_3, .int .i64 a0_4, .int .i64 a0_5, .int .i64 a0_6]) (t := 55) ?hr ?_; (case hd => rfl); (case hg => rfl); (case hr => first | (go_simp; done) | (go_simp; rfl)); intro gb299 hg w14 hbox hb; have n0_ := Za (Xo (hb_11 HB.out) hb); have n1_ := Za (hbox); have n2_ := Za ((by rw [hg]; exact (Xp (hb_11 HB.out)) : w.heap.size ≤ gb299)); have n3_ := Za ((by rw [hg]; exact (Xp (hb_11 HB.out)) : w.heap.size ≤ gb299)); clear HB; have HB := n0_; have BK299 := n1_; have GW299 := n2_; have GE299 := n3_; clear n0_ n1_ n2_ n3_; clear hb hbox hg) | ((with_reducible refine gate_dst (N := 3) rfl ?_); refine box_event ?hg (N := 3) ?hd (cs := #[.int .i64 a1_0, .int .i64 a1_1, .int .i64 a1_2]) (t := 32) ?hr ?_; (case hd => rfl); (case hg => rfl); (case hr => first | (go_simp; done) | (go_simp; rfl)); intro gb300 hg w15 hbox hb; have n0_ := Za (Xl (g := gb299) (o := .cells #[.int .i64 a0_0, .int .i64 a0_1, .int .i64 a0_2, .int .i64 a0_3, .int .i64 a0_4, .int .i64 a0_5, .int .i64 a0_6] 55 (0, 0)) (bb_11 BK299.out) hb); have n1_ := Za (Xo (hb_11 HB.out) hb); have n2_ := Za (hbox); have n3_ := Za ((by rw [hg]; exact (Xp (hb_11 HB.out)) : w.heap.size ≤ gb300)); have n4_ := Za ((by rw [hg]; exact (Xp (hb_11 HB.out)) : w.heap.size ≤ gb300)); have n5_ := Za ((by rw [hg]; exact Nat.ne_of_lt (blk_lt (g := gb299) (o := .cells #[.int .i64 a0_0, .int .i64 a0_1, .int .i64 a0_2, .int .i64 a0_3, .int .i64 a0_4, .int .i64 a0_5, .int .i64 a0_6] 55 (0, 0)) (bb_11 BK299.out)) : gb299 ≠ gb300)); have n6_ := Za ((by rw [hg]; exact Nat.ne_of_gt (blk_lt (g := gb299) (o := .cells #[.int .i64 a0_0, .int .i64 a0_1, .int .i64 a0_2, .int .i64 a0_3, .int .i64 a0_4, .int .i64 a0_5, .int .i64 a0_6] 55 (0, 0)) (bb_11 BK299.out)) : gb300 ≠ gb299)); clear BK299; clear HB; have BK299 := n0_; have HB := n1_; have BK300 := n2_; have GW300 := n3_; have GE300 := n4_; have NB299_300 := n5_; have NB300_299 := n6_; clear n0_ n1_ n2_ n3_ n4_ n5_ n6_; clear hb hbox hg) | ((with_reducible refine gate_callee (f := 36) rfl ?_); refine goesL_ (some 6) rfl rfl Try.func36 (by kernel_rfl) rfl #[] rfl (by (try simp only [List.map_toArray, List.map_cons, List.map_nil]); first | done | rfl | (simp only [List.length_drop, List.length_take]; rfl)) ?_; (with_reducible refine (gatherumlaw38_alive.calls k  Zt _ A3.out).mono ?_); rintro e w16 ⟨rfl, hb⟩; refine ⟨_, rfl, ?_⟩; have n0_ := Za (Xl (g := gb299) (o := .cells #[.int .i64 a0_0, .int .i64 a0_1, .int .i64 a0_2, .int .i64 a0_3, .int .i64 a0_4, .int .i64 a0_5, .int .i64 a0_6] 55 (0, 0)) (bb_11 BK299.out) hb); have n1_ := Za (Xl (g := gb300) (o := .cells #[.int .i64 a1_0, .int .i64 a1_1, .int .i64 a1_2] 32 (0, 0)) (bb_11 BK300.out) hb); have n2_ := Za (Xo (hb_11 HB.out) hb); clear BK299; clear BK300; clear HB; have BK299 := n0_; have BK300 := n1_; have HB := n2_; clear n0_ n1_ n2_; (try clear hb); (try clear hb2); (try clear hk); (try clear hi); have hnb17 := NB299_300.out; have hnc17 := NB300_299.out; have hcz18_0 : w16.cell? ⟨gb299, 0, none⟩ = some (.int .i64 a0_0) := (Xd BK299.out 0).trans rfl; have hcz18_1 : w16.cell? ⟨gb299, 1, none⟩ = some (.int .i64 a0_1) := (Xd BK299.out 1).trans rfl; have hcz18_2 : w16.cell? ⟨gb299, 2, none⟩ = some (.int .i64 a0_2) := (Xd BK299.out 2).trans rfl; have hcz18_3 : w16.cell? ⟨gb299, 3, none⟩ = some (.int .i64 a0_3) := (Xd BK299.out 3).trans rfl; have hcz18_4 : w16.cell? ⟨gb299, 4, none⟩ = some (.int .i64 a0_4) := (Xd BK299.out 4).trans rfl; have hcz18_5 : w16.cell? ⟨gb299, 5, none⟩ = some (.int .i64 a0_5) := (Xd BK299.out 5).trans rfl; have hcz18_6 : w16.cell? ⟨gb299, 6, none⟩ = some (.int .i64 a0_6) := (Xd BK299.out 6).trans rfl; have hfz18_0 := Xj BK299.out 0; have hfz18_1 := Xj BK299.out 1; have hfz18_2 := Xj BK299.out 2; have hfz18_3 := Xj BK299.out 3; have hfz18_4 := Xj BK299.out 4; have hfz18_5 := Xj BK299.out 5; have hfz18_6 := Xj BK299.out 6; have hcz19_0 : w16.cell? ⟨gb300, 0, none⟩ = some (.int .i64 a1_0) := (Xd BK300.out 0).trans rfl; have hcz19_1 : w16.cell? ⟨gb300, 1, none⟩ = some (.int .i64 a1_1) := (Xd BK300.out 1).trans rfl; have hcz19_2 : w16.cell? ⟨gb300, 2, none⟩ = some (.int .i64 a1_2) := (Xd BK300.out 2).trans rfl; have hfz19_0 := Xj BK300.out 0; have hfz19_1 := Xj BK300.out 1; have hfz19_2 := Xj BK300.out 2) | ((with_reducible refine gate_callee (f := 37) rfl ?_); refine goesL_ (some 10) rfl rfl Try.func37 (by kernel_rfl) rfl #[.agg #[.int .i64 a0_0, .int .i64 a0_1, .int .i64 a0_2, .int .i64 a0_3, .int .i64 a0_4, .int .i64 a0_5, .int .i64 a0_6], .agg #[.int .i64 a1_0, .int .i64 a1_1, .int .i64 a1_2]] rfl (by (try simp only [List.map_toArray, List.map_cons, List.map_nil]); first | done | rfl | (simp only [List.length_drop, List.length_take]; rfl)) ?_; (with_reducible refine (layer_Lay.calls k a0_0 a0_1 a0_2 a0_3 a0_4 a0_5 a0_6 a1_0 a1_1 a1_2 t302 t303 t304 t305 t306 t307 t308 _ A5.out).mono ?_); rintro e w20 ⟨rfl, hb⟩; refine ⟨_, rfl, ?_⟩; have n0_ := Za (Xl (g := gb299) (o := .cells #[.int .i64 a0_0, .int .i64 a0_1, .int .i64 a0_2, .int .i64 a0_3, .int .i64 a0_4, .int .i64 a0_5, .int .i64 a0_6] 55 (0, 0)) (bb_11 BK299.out) hb); have n1_ := Za (Xl (g := gb300) (o := .cells #[.int .i64 a1_0, .int .i64 a1_1, .int .i64 a1_2] 32 (0, 0)) (bb_11 BK300.out) hb); have n2_ := Za (Xo (hb_11 HB.out) hb); clear BK299; clear BK300; clear HB; have BK299 := n0_; have BK300 := n1_; have HB := n2_; clear n0_ n1_ n2_; (try clear hb); (try clear hb2); (try clear hk); (try clear hi)) | ((with_reducible refine gate_dst (N := 5) rfl ?_); refine box_event ?hg (N := 5) ?hd (cs := #[.int .i64 0, .int .i64 0, .int .i64 0, .int .i64 0, .int .i64 0, .int .i64 0, .int .i64 0]) (t := 55) ?hr ?_; (case hd => rfl); (case hg => rfl); (case hr => first | (go_simp; done) | (go_simp; rfl)); intro gb309 hg w21 hbox hb; have n0_ := Za (Xl (g := gb299) (o := .cells #[.int .i64 a0_0, .int .i64 a0_1, .int .i64 a0_2, .int .i64 a0_3, .int .i64 a0_4, .int .i64 a0_5, .int .i64 a0_6] 55 (0, 0)) (bb_11 BK299.out) hb); have n1_ := Za (Xl (g := gb300) (o := .cells #[.int .i64 a1_0, .int .i64 a1_1, .int .i64 a1_2] 32 (0, 0)) (bb_11 BK300.out) hb); have n2_ := Za (Xo (hb_11 HB.out) hb); have n3_ := Za (hbox); have n4_ := Za ((by rw [hg]; exact (Xp (hb_11 HB.out)) : w.heap.size ≤ gb309)); have n5_ := Za ((by rw [hg]; exact (Xp (hb_11 HB.out)) : w.heap.size ≤ gb309)); have n6_ := Za ((by rw [hg]; exact Nat.ne_of_lt (blk_lt (g := gb299) (o := .cells #[.int .i64 a0_0, .int .i64 a0_1, .int .i64 a0_2, .int .i64 a0_3, .int .i64 a0_4, .int .i64 a0_5, .int .i64 a0_6] 55 (0, 0)) (bb_11 BK299.out)) : gb299 ≠ gb309)); have n7_ := Za ((by rw [hg]; exact Nat.ne_of_gt (blk_lt (g := gb299) (o := .cells #[.int .i64 a0_0, .int .i64 a0_1, .int .i64 a0_2, .int .i64 a0_3, .int .i64 a0_4, .int .i64 a0_5, .int .i64 a0_6] 55 (0, 0)) (bb_11 BK299.out)) : gb309 ≠ gb299)); have n8_ := Za ((by rw [hg]; exact Nat.ne_of_lt (blk_lt (g := gb300) (o := .cells #[.int .i64 a1_0, .int .i64 a1_1, .int .i64 a1_2] 32 (0, 0)) (bb_11 BK300.out)) : gb300 ≠ gb309)); have n9_ := Za ((by rw [hg]; exact Nat.ne_of_gt (blk_lt (g := gb300) (o := .cells #[.int .i64 a1_0, .int .i64 a1_1, .int .i64 a1_2] 32 (0, 0)) (bb_11 BK300.out)) : gb309 ≠ gb300)); clear BK299; clear BK300; clear HB; have BK299 := n0_; have BK300 := n1_; have HB := n2_; have BK309 := n3_; have GW309 := n4_; have GE309 := n5_; have NB299_309 := n6_; have NB309_299 := n7_; have NB300_309 := n8_; have NB309_300 := n9_; clear n0_ n1_ n2_ n3_ n4_ n5_ n6_ n7_ n8_ n9_; clear hb hbox hg; have hnb22 := NB309_299.out; have hnc22 := NB299_309.out; have hnb23 := NB309_300.out; have hnc23 := NB300_309.out; have hcz24_0 : w21.cell? ⟨gb309, 0, none⟩ = some (.int .i64 0) := (Xd BK309.out 0).trans rfl; have hcz24_1 : w21.cell? ⟨gb309, 1, none⟩ = some (.int .i64 0) := (Xd BK309.out 1).trans rfl; have hcz24_2 : w21.cell? ⟨gb309, 2, none⟩ = some (.int .i64 0) := (Xd BK309.out 2).trans rfl; have hcz24_3 : w21.cell? ⟨gb309, 3, none⟩ = some (.int .i64 0) := (Xd BK309.out 3).trans rfl; have hcz24_4 : w21.cell? ⟨gb309, 4, none⟩ = some (.int .i64 0) := (Xd BK309.out 4).trans rfl; have hcz24_5 : w21.cell? ⟨gb309, 5, none⟩ = some (.int .i64 0) := (Xd BK309.out 5).trans rfl; have hcz24_6 : w21.cell? ⟨gb309, 6, none⟩ = some (.int .i64 0) := (Xd BK309.out 6).trans rfl; have hfz24_0 := Xj BK309.out 0; have hfz24_1 := Xj BK309.out 1; have hfz24_2 := Xj BK309.out 2; have hfz24_3 := Xj BK309.out 3; have hfz24_4 := Xj BK309.out 4; have hfz24_5 := Xj BK309.out 5; have hfz24_6 := Xj BK309.out 6))
     have n0_ : Aside0 ((((((((w21.setCell ⟨gb309, 0, none⟩ (.int .i64 t302)).setCell ⟨gb309, 1, none⟩ (.int .i64 t303)).setCell ⟨gb309, 2, none⟩ (.int .i64 t304)).setCell ⟨gb309, 3, none⟩ (.int .i64 t305)).setCell ⟨gb309, 4, none⟩ (.int .i64 t306)).setCell ⟨gb309, 5, none⟩ (.int .i64 t307)).setCell ⟨gb309, 6, none⟩ (.int .i64 t308)).heap[gb299]? = some (.cells #[.int .i64 a0_0, .int .i64 a0_1, .int .i64 a0_2, .int .i64 a0_3, .int .i64 a0_4, .int .i64 a0_5, .int .i64 a0_6] 55 (0, 0))) := ⟨by (with_reducible repeat (first | refine Xe ?_ _ | refine Xf ?_ | refine Xg ?_ _)); refine Xn ?_ NB299_309.out _; (with_reducible repeat (first | refine Xe ?_ _ | refine Xf ?_ | refine Xg ?_ _)); refine Xn ?_ NB299_309.out _; (with_reducible repeat (first | refine Xe ?_ _ | refine Xf ?_ | refine Xg ?_ _)); refine Xn ?_ NB299_309.out _; (with_reducible repeat (first | refine Xe ?_ _ | refine Xf ?_ | refine Xg ?_ _)); refine Xn ?_ NB299_309.out _; (with_reducible repeat (first | refine Xe ?_ _ | refine Xf ?_ | refine Xg ?_ _)); refine Xn ?_ NB299_309.out _; (with_reducible repeat (first | refine Xe ?_ _ | refine Xf ?_ | refine Xg ?_ _)); refine Xn ?_ NB299_309.out _; (with_reducible repeat (first | refine Xe ?_ _ | refine Xf ?_ | refine Xg ?_ _)); refine Xn ?_ NB299_309.out _; (with_reducible repeat (first | refine Xe ?_ _ | refine Xf ?_ | refine Xg ?_ _)); exact BK299.out⟩
     have n1_ : Aside0 ((((((((w21.setCell ⟨gb309, 0, none⟩ (.int .i64 t302)).setCell ⟨gb309, 1, none⟩ (.int .i64 t303)).setCell ⟨gb309, 2, none⟩ (.int .i64 t304)).setCell ⟨gb309, 3, none⟩ (.int .i64 t305)).setCell ⟨gb309, 4, none⟩ (.int .i64 t306)).setCell ⟨gb309, 5, none⟩ (.int .i64 t307)).setCell ⟨gb309, 6, none⟩ (.int .i64 t308)).heap[gb300]? = some (.cells #[.int .i64 a1_0, .int .i64 a1_1, .int .i64 a1_2] 32 (0, 0))) := ⟨by (with_reducible repeat (first | refine Xe ?_ _ | refine Xf ?_ | refine Xg ?_ _)); refine Xn ?_ NB300_309.out _; (with_reducible repeat (first | refine Xe ?_ _ | refine Xf ?_ | refine Xg ?_ _)); refine Xn ?_ NB300_309.out _; (with_reducible repeat (first | refine Xe ?_ _ | refine Xf ?_ | refine Xg ?_ _)); refine Xn ?_ NB300_309.out _; (with_reducible repeat (first | refine Xe ?_ _ | refine Xf ?_ | refine Xg ?_ _)); refine Xn ?_ NB300_309.out _; (with_reducible repeat (first | refine Xe ?_ _ | refine Xf ?_ | refine Xg ?_ _)); refine Xn ?_ NB300_309.out _; (with_reducible repeat (first | refine Xe ?_ _ | refine Xf ?_ | refine Xg ?_ _)); refine Xn ?_ NB300_309.out _; (with_reducible repeat (first | refine Xe ?_ _ | refine Xf ?_ | refine Xg ?_ _)); refine Xn ?_ NB300_309.out _; (with_reducible repeat (first | refine Xe ?_ _ | refine Xf ?_ | refine Xg ?_ _)); exact BK300.out⟩
     have n2_ : Aside0 ((((((((w21.setCell ⟨gb309, 0, none⟩ (.int .i64 t302)).setCell ⟨gb309, 1, none⟩ (.int .i64 t303)).setCell ⟨gb309, 2, none⟩ (.int .i64 t304)).setCell ⟨gb309, 3, none⟩ (.int .i64 t305)).setCell ⟨gb309, 4, none⟩ (.int .i64 t306)).setCell ⟨gb309, 5, none⟩ (.int .i64 t307)).setCell ⟨gb309, 6, none⟩ (.int .i64 t308)).heap[gb309]? = some (.cells #[.int .i64 t302, .int .i64 t303, .int .i64 t304, .int .i64 t305, .int .i64 t306, .int .i64 t307, .int .i64 t308] 55 (0, 0))) := ⟨by (with_reducible repeat (first | refine Xe ?_ _ | refine Xf ?_ | refine Xg ?_ _)); refine blk_put (cs := #[.int .i64 t302, .int .i64 t303, .int .i64 t304, .int .i64 t305, .int .i64 t306, .int .i64 t307, .int .i64 0]) ?_ 6 _ rfl; (with_reducible repeat (first | refine Xe ?_ _ | refine Xf ?_ | refine Xg ?_ _)); refine blk_put (cs := #[.int .i64 t302, .int .i64 t303, .int .i64 t304, .int .i64 t305, .int .i64 t306, .int .i64 0, .int .i64 0]) ?_ 5 _ rfl; (with_reducible repeat (first | refine Xe ?_ _ | refine Xf ?_ | refine Xg ?_ _)); refine blk_put (cs := #[.int .i64 t302, .int .i64 t303, .int .i64 t304, .int .i64 t305, .int .i64 0, .int .i64 0, .int .i64 0]) ?_ 4 _ rfl; (with_reducible repeat (first | refine Xe ?_ _ | refine Xf ?_ | refine Xg ?_ _)); refine blk_put (cs := #[.int .i64 t302, .int .i64 t303, .int .i64 t304, .int .i64 0, .int .i64 0, .int .i64 0, .int .i64 0]) ?_ 3 _ rfl; (with_reducible repeat (first | refine Xe ?_ _ | refine Xf ?_ | refine Xg ?_ _)); refine blk_put (cs := #[.int .i64 t302, .int .i64 t303, .int .i64 0, .int .i64 0, .int .i64 0, .int .i64 0, .int .i64 0]) ?_ 2 _ rfl; (with_reducible repeat (first | refine Xe ?_ _ | refine Xf ?_ | refine Xg ?_ _)); refine blk_put (cs := #[.int .i64 t302, .int .i64 0, .int .i64 0, .int .i64 0, .int .i64 0, .int .i64 0, .int .i64 0]) ?_ 1 _ rfl; (with_reducible repeat (first | refine Xe ?_ _ | refine Xf ?_ | refine Xg ?_ _)); refine blk_put (cs := #[.int .i64 0, .int .i64 0, .int .i64 0, .int .i64 0, .int .i64 0, .int .i64 0, .int .i64 0]) ?_ 0 _ rfl; (with_reducible repeat (first | refine Xe ?_ _ | refine Xf ?_ | refine Xg ?_ _)); exact BK309.out⟩
     have n3_ : Aside0 (Below w.heap.size w (((((((w21.setCell ⟨gb309, 0, none⟩ (.int .i64 t302)).setCell ⟨gb309, 1, none⟩ (.int .i64 t303)).setCell ⟨gb309, 2, none⟩ (.int .i64 t304)).setCell ⟨gb309, 3, none⟩ (.int .i64 t305)).setCell ⟨gb309, 4, none⟩ (.int .i64 t306)).setCell ⟨gb309, 5, none⟩ (.int .i64 t307)).setCell ⟨gb309, 6, none⟩ (.int .i64 t308))) := ⟨by repeat (first | (with_reducible first | exact HB.out | apply below_alloc | apply pw_below_drewN | apply below_drew1 | refine below_set ?_ GE299.out | refine below_set ?_ GE300.out | refine below_set ?_ GE309.out) | exact HB.out)⟩
     (try clear BK299)
     (try clear BK300)
     (try clear BK309)
     (try clear HB)
     generalize (((((((w21.setCell ⟨gb309, 0, none⟩ (.int .i64 t302)).setCell ⟨gb309, 1, none⟩ (.int .i64 t303)).setCell ⟨gb309, 2, none⟩ (.int .i64 t304)).setCell ⟨gb309, 3, none⟩ (.int .i64 t305)).setCell ⟨gb309, 4, none⟩ (.int .i64 t306)).setCell ⟨gb309, 5, none⟩ (.int .i64 t307)).setCell ⟨gb309, 6, none⟩ (.int .i64 t308)) = w25 at n0_ n1_ n2_ n3_ ⊢
     have BK299 := n0_
     have BK300 := n1_
     have BK309 := n2_
     have HB := n3_
     clear n0_ n1_ n2_ n3_
     have n0_ := Za (Xf BK299.out)
     have n1_ := Za (Xf BK300.out)
     have n2_ := Za (Xf BK309.out)
     have n3_ := Za (below_drew1 HB.out)
     clear BK299
     clear BK300
     clear BK309
     clear HB
     have BK299 := n0_
     have BK300 := n1_
     have BK309 := n2_
     have HB := n3_
     clear n0_ n1_ n2_ n3_
     refine start_ (n := 36) (S := fun w' => w'.cell? ⟨gb299, 0, none⟩ = some (.int .i64 a0_0) ∧ w'.cell? ⟨gb299, 1, none⟩ = some (.int .i64 a0_1) ∧ w'.cell? ⟨gb299, 2, none⟩ = some (.int .i64 a0_2) ∧ w'.cell? ⟨gb299, 3, none⟩ = some (.int .i64 a0_3) ∧ w'.cell? ⟨gb299, 4, none⟩ = some (.int .i64 a0_4) ∧ w'.cell? ⟨gb299, 5, none⟩ = some (.int .i64 a0_5) ∧ w'.cell? ⟨gb299, 6, none⟩ = some (.int .i64 a0_6) ∧ w'.cell? ⟨gb309, 0, none⟩ = some (.int .i64 t302) ∧ w'.cell? ⟨gb309, 1, none⟩ = some (.int .i64 t303) ∧ w'.cell? ⟨gb309, 2, none⟩ = some (.int .i64 t304) ∧ w'.cell? ⟨gb309, 3, none⟩ = some (.int .i64 t305) ∧ w'.cell? ⟨gb309, 4, none⟩ = some (.int .i64 t306) ∧ w'.cell? ⟨gb309, 5, none⟩ = some (.int .i64 t307) ∧ w'.cell? ⟨gb309, 6, none⟩ = some (.int .i64 t308) ∧ w'.cell? ⟨gb300, 0, none⟩ = some (.int .i64 a1_0) ∧ w'.cell? ⟨gb300, 1, none⟩ = some (.int .i64 a1_1) ∧ w'.cell? ⟨gb300, 2, none⟩ = some (.int .i64 a1_2)) (ds := []) #[Zf,Zf,Zf,Zf,Zf,Zf,Zf,Zf,Zf,Zf,Zf,Zf,Zf,Zf,Zf,Zf,Zf,Zf,Zf,Zf,Zf,Zf,Zf,Zf,Zf,Zf,Zf,Zf,Zf,Zf,Zf,Zf,Zf,Zf,Zf,Zf] (by kernel_rfl) rfl rfl ⟨(Xd BK299.out 0).trans rfl, (Xd BK299.out 1).trans rfl, (Xd BK299.out 2).trans rfl, (Xd BK299.out 3).trans rfl, (Xd BK299.out 4).trans rfl, (Xd BK299.out 5).trans rfl, (Xd BK299.out 6).trans rfl, (Xd BK309.out 0).trans rfl, (Xd BK309.out 1).trans rfl, (Xd BK309.out 2).trans rfl, (Xd BK309.out 3).trans rfl, (Xd BK309.out 4).trans rfl, (Xd BK309.out 5).trans rfl, (Xd BK309.out 6).trans rfl, (Xd BK300.out 0).trans rfl, (Xd BK300.out 1).trans rfl, (Xd BK300.out 2).trans rfl⟩ (fun hHeld => ?_); refine with_tabW gatherumlaw38_LayerLies.tab4 gatherumlaw38_LayerLies.bits4 (fun HT_ HW_ => ?_)
     generalize w25.drew = w26 at BK299 BK300 BK309 HB hHeld ⊢
     refine Xm (i := 0) (N := some 11) (v := ?_) (a' := ?_) #[Zt,Zf,Zf,Zf,Zf,Zf,Zf,Zf,Zf,Zf,Zf,Zf,Zf,Zf,Zf,Zf,Zf,Zf,Zf,Zf,Zf,Zf,Zf,Zf,Zf,Zf,Zf,Zf,Zf,Zf,Zf,Zf,Zf,Zf,Zf,Zf] rfl rfl (Xk HT_.out (by kernel_rfl)) (fun _ _ _ h => h) (Or.inl ⟨by rfl, ?_⟩) ?_ ?_
     rotate_left
     ·intro w'
      go_simp
      with_reducible rfl
     rotate_left
     ·simp only [Act.put, Xa, Xb, Xc, Xh, Xi]
      rfl
     refine Xm (i := 3) (N := some 14) (v := ?_) (a' := ?_) #[Zt,Zf,Zf,Zt,Zf,Zf,Zf,Zf,Zf,Zf,Zf,Zf,Zf,Zf,Zf,Zf,Zf,Zf,Zf,Zf,Zf,Zf,Zf,Zf,Zf,Zf,Zf,Zf,Zf,Zf,Zf,Zf,Zf,Zf,Zf,Zf] rfl rfl (Xk HT_.out (by kernel_rfl)) (fun _ _ _ h => h) (Or.inl ⟨by rfl, ?_⟩) ?_ ?_
     rotate_left
     ·intro w'
      go_simp
      with_reducible rfl
     rotate_left
     ·simp only [Act.put, Xa, Xb, Xc, Xh, Xi]
      rfl
     refine take_ (i := 1) (N := some 12) (v := ?_) (a' := ?_) #[Zt,Zt,Zf,Zt,Zf,Zf,Zf,Zf,Zf,Zf,Zf,Zf,Zf,Zf,Zf,Zf,Zf,Zf,Zf,Zf,Zf,Zf,Zf,Zf,Zf,Zf,Zf,Zf,Zf,Zf,Zf,Zf,Zf,Zf,Zf,Zf] rfl rfl (take_ofW HT_.out HW_.out (by kernel_rfl)) (fun _ _ _ h => h) (Or.inl ⟨by rfl, ?_⟩) hHeld ?_ ?_
     rotate_left
     ·rintro w' ⟨s0, s1, s2, s3, s4, s5, s6, s7, s8, s9, s10, s11, s12, s13, s14, s15, s16⟩
      go_simp
      with_reducible rfl
     rotate_left
     ·simp only [Act.put, Xa, Xb, Xc, Xh, Xi]
      rfl
     refine take_ (i := 4) (N := some 15) (v := ?_) (a' := ?_) #[Zt,Zt,Zf,Zt,Zt,Zf,Zf,Zf,Zf,Zf,Zf,Zf,Zf,Zf,Zf,Zf,Zf,Zf,Zf,Zf,Zf,Zf,Zf,Zf,Zf,Zf,Zf,Zf,Zf,Zf,Zf,Zf,Zf,Zf,Zf,Zf] rfl rfl (take_ofW HT_.out HW_.out (by kernel_rfl)) (fun _ _ _ h => h) (Or.inl ⟨by rfl, ?_⟩) hHeld ?_ ?_
     rotate_left
     ·rintro w' ⟨s0, s1, s2, s3, s4, s5, s6, s7, s8, s9, s10, s11, s12, s13, s14, s15, s16⟩
      go_simp
      with_reducible rfl
     rotate_left
     ·simp only [Act.put, Xa, Xb, Xc, Xh, Xi]
      rfl
     refine Xm (i := 5) (N := some 16) (v := ?_) (a' := ?_) #[Zt,Zt,Zf,Zt,Zt,Zt,Zf,Zf,Zf,Zf,Zf,Zf,Zf,Zf,Zf,Zf,Zf,Zf,Zf,Zf,Zf,Zf,Zf,Zf,Zf,Zf,Zf,Zf,Zf,Zf,Zf,Zf,Zf,Zf,Zf,Zf] rfl rfl (Xk HT_.out (by kernel_rfl)) (fun _ _ _ h => h) (Or.inl ⟨by rfl, ?_⟩) ?_ ?_
     rotate_left
     ·intro w'
      go_simp
      with_reducible rfl
     rotate_left
     ·simp only [Act.put, Xa, Xb, Xc, Xh, Xi]
      rfl
     refine one_ (i := 2) (N := some 13) #[Zt,Zt,Zt,Zt,Zt,Zt,Zf,Zf,Zf,Zf,Zf,Zf,Zf,Zf,Zf,Zf,Zf,Zf,Zf,Zf,Zf,Zf,Zf,Zf,Zf,Zf,Zf,Zf,Zf,Zf,Zf,Zf,Zf,Zf,Zf,Zf] rfl rfl (one_of HT_.out (by kernel_rfl)) (by decide) (fun K hK => ?_)
     refine goes_ Try.func38 (by kernel_rfl) rfl #[.agg #[.int .i64 a0_0, .int .i64 a0_1, .int .i64 a0_2, .int .i64 a0_3]] (by rfl) rfl rfl (by (try simp only [List.map_toArray, List.map_cons, List.map_nil]); first | done | rfl | (simp only [List.length_drop, List.length_take]; rfl)) ?_
     with_reducible refine (layer_Of.calls a0_0 a0_1 a0_2 a0_3 t310 t311 t312 t313 t314 t315 t316 _ A6.out).mono ?_
     rintro e w27 ⟨rfl, hb⟩
     refine ⟨_, rfl, ?_⟩
     have n0_ := Za (Xl (g := gb299) (o := .cells #[.int .i64 a0_0, .int .i64 a0_1, .int .i64 a0_2, .int .i64 a0_3, .int .i64 a0_4, .int .i64 a0_5, .int .i64 a0_6] 55 (0, 0)) (bb_11 BK299.out) hb)
     have n1_ := Za (Xl (g := gb300) (o := .cells #[.int .i64 a1_0, .int .i64 a1_1, .int .i64 a1_2] 32 (0, 0)) (bb_11 BK300.out) hb)
     have n2_ := Za (Xl (g := gb309) (o := .cells #[.int .i64 t302, .int .i64 t303, .int .i64 t304, .int .i64 t305, .int .i64 t306, .int .i64 t307, .int .i64 t308] 55 (0, 0)) (bb_11 BK309.out) hb)
     have n3_ := Za (Xo (hb_11 HB.out) hb)
     clear BK299
     clear BK300
     clear BK309
     clear HB
     have BK299 := n0_
     have BK300 := n1_
     have BK309 := n2_
     have HB := n3_
     clear n0_ n1_ n2_ n3_
     (try clear hb)
     (try clear hb2)
     (try clear hk)
     (try clear hi)
     refine hK.out _ _ ⟨(Xd BK299.out 0).trans rfl, (Xd BK299.out 1).trans rfl, (Xd BK299.out 2).trans rfl, (Xd BK299.out 3).trans rfl, (Xd BK299.out 4).trans rfl, (Xd BK299.out 5).trans rfl, (Xd BK299.out 6).trans rfl, (Xd BK309.out 0).trans rfl, (Xd BK309.out 1).trans rfl, (Xd BK309.out 2).trans rfl, (Xd BK309.out 3).trans rfl, (Xd BK309.out 4).trans rfl, (Xd BK309.out 5).trans rfl, (Xd BK309.out 6).trans rfl, (Xd BK300.out 0).trans rfl, (Xd BK300.out 1).trans rfl, (Xd BK300.out 2).trans rfl⟩ (fun hHeld => ?_)
     clear hK K
     refine norm_ (a' := ?_) ?_ ?_
     rotate_left
     ·show Act.put _ (some 13) _ = _
      simp only [Act.put, Xa, Xb, Xc, Xh, Xi]
      rfl
     refine Xm (i := 6) (N := some 17) (v := ?_) (a' := ?_) #[Zt,Zt,Zt,Zt,Zt,Zt,Zt,Zf,Zf,Zf,Zf,Zf,Zf,Zf,Zf,Zf,Zf,Zf,Zf,Zf,Zf,Zf,Zf,Zf,Zf,Zf,Zf,Zf,Zf,Zf,Zf,Zf,Zf,Zf,Zf,Zf] rfl rfl (Xk HT_.out (by kernel_rfl)) (fun _ _ _ h => h) (Or.inl ⟨by rfl, ?_⟩) ?_ ?_
     rotate_left
     ·intro w'
      go_simp
      with_reducible rfl
     rotate_left
     ·simp only [Act.put, Xa, Xb, Xc, Xh, Xi]
      rfl
     refine Xm (i := 7) (N := some 18) (v := ?_) (a' := ?_) #[Zt,Zt,Zt,Zt,Zt,Zt,Zt,Zt,Zf,Zf,Zf,Zf,Zf,Zf,Zf,Zf,Zf,Zf,Zf,Zf,Zf,Zf,Zf,Zf,Zf,Zf,Zf,Zf,Zf,Zf,Zf,Zf,Zf,Zf,Zf,Zf] rfl rfl (Xk HT_.out (by kernel_rfl)) (fun _ _ _ h => h) (Or.inl ⟨by rfl, ?_⟩) ?_ ?_
     rotate_left
     ·intro w'
      go_simp
      with_reducible rfl
     rotate_left
     ·simp only [Act.put, Xa, Xb, Xc, Xh, Xi]
      rfl
     refine take_ (i := 8) (N := some 19) (v := ?_) (a' := ?_) #[Zt,Zt,Zt,Zt,Zt,Zt,Zt,Zt,Zt,Zf,Zf,Zf,Zf,Zf,Zf,Zf,Zf,Zf,Zf,Zf,Zf,Zf,Zf,Zf,Zf,Zf,Zf,Zf,Zf,Zf,Zf,Zf,Zf,Zf,Zf,Zf] rfl rfl (take_ofW HT_.out HW_.out (by kernel_rfl)) (fun _ _ _ h => h) (Or.inl ⟨by rfl, ?_⟩) hHeld ?_ ?_
     rotate_left
     ·rintro w' ⟨s0, s1, s2, s3, s4, s5, s6, s7, s8, s9, s10, s11, s12, s13, s14, s15, s16⟩
      go_simp
      with_reducible rfl
     rotate_left
     ·simp only [Act.put, Xa, Xb, Xc, Xh, Xi]
      rfl
     refine take_ (i := 10) (N := some 21) (v := ?_) (a' := ?_) #[Zt,Zt,Zt,Zt,Zt,Zt,Zt,Zt,Zt,Zf,Zt,Zf,Zf,Zf,Zf,Zf,Zf,Zf,Zf,Zf,Zf,Zf,Zf,Zf,Zf,Zf,Zf,Zf,Zf,Zf,Zf,Zf,Zf,Zf,Zf,Zf] rfl rfl (take_ofW HT_.out HW_.out (by kernel_rfl)) (fun _ _ _ h => h) (Or.inl ⟨by rfl, ?_⟩) hHeld ?_ ?_
     rotate_left
     ·rintro w' ⟨s0, s1, s2, s3, s4, s5, s6, s7, s8, s9, s10, s11, s12, s13, s14, s15, s16⟩
      go_simp
      with_reducible rfl
     rotate_left
     ·simp only [Act.put, Xa, Xb, Xc, Xh, Xi]
      rfl
     refine one_ (i := 9) (N := some 20) #[Zt,Zt,Zt,Zt,Zt,Zt,Zt,Zt,Zt,Zt,Zt,Zf,Zf,Zf,Zf,Zf,Zf,Zf,Zf,Zf,Zf,Zf,Zf,Zf,Zf,Zf,Zf,Zf,Zf,Zf,Zf,Zf,Zf,Zf,Zf,Zf] rfl rfl (one_of HT_.out (by kernel_rfl)) (by decide) (fun K hK => ?_)
     refine goes_ Try.func39 (by kernel_rfl) rfl #[.agg #[.int .i64 a0_0, .int .i64 a0_1, .int .i64 a0_2, .int .i64 a0_3, .int .i64 a0_4, .int .i64 a0_5, .int .i64 a0_6]] (by rfl) rfl rfl (by (try simp only [List.map_toArray, List.map_cons, List.map_nil]); first | done | rfl | (simp only [List.length_drop, List.length_take]; rfl)) ?_
     with_reducible refine (layer_Lies.calls k a0_0 a0_1 a0_2 a0_3 a0_4 a0_5 a0_6 t317 t318 t319 t320 _ A8.out).mono ?_
     rintro e w28 ⟨rfl, hb⟩
     refine ⟨_, rfl, ?_⟩
     have n0_ := Za (Xl (g := gb299) (o := .cells #[.int .i64 a0_0, .int .i64 a0_1, .int .i64 a0_2, .int .i64 a0_3, .int .i64 a0_4, .int .i64 a0_5, .int .i64 a0_6] 55 (0, 0)) (bb_11 BK299.out) hb)
     have n1_ := Za (Xl (g := gb300) (o := .cells #[.int .i64 a1_0, .int .i64 a1_1, .int .i64 a1_2] 32 (0, 0)) (bb_11 BK300.out) hb)
     have n2_ := Za (Xl (g := gb309) (o := .cells #[.int .i64 t302, .int .i64 t303, .int .i64 t304, .int .i64 t305, .int .i64 t306, .int .i64 t307, .int .i64 t308] 55 (0, 0)) (bb_11 BK309.out) hb)
     have n3_ := Za (Xo (hb_11 HB.out) hb)
     clear BK299
     clear BK300
     clear BK309
     clear HB
     have BK299 := n0_
     have BK300 := n1_
     have BK309 := n2_
     have HB := n3_
     clear n0_ n1_ n2_ n3_
     (try clear hb)
     (try clear hb2)
     (try clear hk)
     (try clear hi)
     refine hK.out _ _ ⟨(Xd BK299.out 0).trans rfl, (Xd BK299.out 1).trans rfl, (Xd BK299.out 2).trans rfl, (Xd BK299.out 3).trans rfl, (Xd BK299.out 4).trans rfl, (Xd BK299.out 5).trans rfl, (Xd BK299.out 6).trans rfl, (Xd BK309.out 0).trans rfl, (Xd BK309.out 1).trans rfl, (Xd BK309.out 2).trans rfl, (Xd BK309.out 3).trans rfl, (Xd BK309.out 4).trans rfl, (Xd BK309.out 5).trans rfl, (Xd BK309.out 6).trans rfl, (Xd BK300.out 0).trans rfl, (Xd BK300.out 1).trans rfl, (Xd BK300.out 2).trans rfl⟩ (fun hHeld => ?_)
     clear hK K
     refine norm_ (a' := ?_) ?_ ?_
     rotate_left
     ·show Act.put _ (some 20) _ = _
      simp only [Act.put, Xa, Xb, Xc, Xh, Xi]
      rfl
     refine one_ (i := 11) (N := some 22) #[Zt,Zt,Zt,Zt,Zt,Zt,Zt,Zt,Zt,Zt,Zt,Zt,Zf,Zf,Zf,Zf,Zf,Zf,Zf,Zf,Zf,Zf,Zf,Zf,Zf,Zf,Zf,Zf,Zf,Zf,Zf,Zf,Zf,Zf,Zf,Zf] rfl rfl (one_of HT_.out (by kernel_rfl)) (by decide) (fun K hK => ?_)
     refine goes_ Try.func40 (by kernel_rfl) rfl #[.agg #[.int .i64 a0_0, .int .i64 a0_1, .int .i64 a0_2, .int .i64 a0_3, .int .i64 a0_4, .int .i64 a0_5, .int .i64 a0_6]] (by rfl) rfl rfl (by (try simp only [List.map_toArray, List.map_cons, List.map_nil]); first | done | rfl | (simp only [List.length_drop, List.length_take]; rfl)) ?_
     with_reducible refine (gatherumref38_Lies.calls k a0_0 a0_1 a0_2 a0_3 a0_4 a0_5 a0_6 t321 t322 t323 t324 _ A9.out).mono ?_
     rintro e w29 ⟨rfl, hb⟩
     refine ⟨_, rfl, ?_⟩
     have n0_ := Za (Xl (g := gb299) (o := .cells #[.int .i64 a0_0, .int .i64 a0_1, .int .i64 a0_2, .int .i64 a0_3, .int .i64 a0_4, .int .i64 a0_5, .int .i64 a0_6] 55 (0, 0)) (bb_11 BK299.out) hb)
     have n1_ := Za (Xl (g := gb300) (o := .cells #[.int .i64 a1_0, .int .i64 a1_1, .int .i64 a1_2] 32 (0, 0)) (bb_11 BK300.out) hb)
     have n2_ := Za (Xl (g := gb309) (o := .cells #[.int .i64 t302, .int .i64 t303, .int .i64 t304, .int .i64 t305, .int .i64 t306, .int .i64 t307, .int .i64 t308] 55 (0, 0)) (bb_11 BK309.out) hb)
     have n3_ := Za (Xo (hb_11 HB.out) hb)
     clear BK299
     clear BK300
     clear BK309
     clear HB
     have BK299 := n0_
     have BK300 := n1_
     have BK309 := n2_
     have HB := n3_
     clear n0_ n1_ n2_ n3_
     (try clear hb)
     (try clear hb2)
     (try clear hk)
     (try clear hi)
     refine hK.out _ _ ⟨(Xd BK299.out 0).trans rfl, (Xd BK299.out 1).trans rfl, (Xd BK299.out 2).trans rfl, (Xd BK299.out 3).trans rfl, (Xd BK299.out 4).trans rfl, (Xd BK299.out 5).trans rfl, (Xd BK299.out 6).trans rfl, (Xd BK309.out 0).trans rfl, (Xd BK309.out 1).trans rfl, (Xd BK309.out 2).trans rfl, (Xd BK309.out 3).trans rfl, (Xd BK309.out 4).trans rfl, (Xd BK309.out 5).trans rfl, (Xd BK309.out 6).trans rfl, (Xd BK300.out 0).trans rfl, (Xd BK300.out 1).trans rfl, (Xd BK300.out 2).trans rfl⟩ (fun hHeld => ?_)
     clear hK K
     refine norm_ (a' := ?_) ?_ ?_
     rotate_left
     ·show Act.put _ (some 22) _ = _
      simp only [Act.put, Xa, Xb, Xc, Xh, Xi]
      rfl
     refine Xm (i := 12) (N := some 23) (v := ?_) (a' := ?_) #[Zt,Zt,Zt,Zt,Zt,Zt,Zt,Zt,Zt,Zt,Zt,Zt,Zt,Zf,Zf,Zf,Zf,Zf,Zf,Zf,Zf,Zf,Zf,Zf,Zf,Zf,Zf,Zf,Zf,Zf,Zf,Zf,Zf,Zf,Zf,Zf] rfl rfl (Xk HT_.out (by kernel_rfl)) (fun _ _ _ h => h) (Or.inl ⟨by rfl, ?_⟩) ?_ ?_
     rotate_left
     ·intro w'
      go_simp
      with_reducible rfl
     rotate_left
     ·simp only [Act.put, Xa, Xb, Xc, Xh, Xi]
      rfl
     refine Xm (i := 13) (N := some 24) (v := ?_) (a' := ?_) #[Zt,Zt,Zt,Zt,Zt,Zt,Zt,Zt,Zt,Zt,Zt,Zt,Zt,Zt,Zf,Zf,Zf,Zf,Zf,Zf,Zf,Zf,Zf,Zf,Zf,Zf,Zf,Zf,Zf,Zf,Zf,Zf,Zf,Zf,Zf,Zf] rfl rfl (Xk HT_.out (by kernel_rfl)) (fun _ _ _ h => h) (Or.inl ⟨by rfl, ?_⟩) ?_ ?_
     rotate_left
     ·intro w'
      go_simp
      with_reducible rfl
     rotate_left
     ·simp only [Act.put, Xa, Xb, Xc, Xh, Xi]
      rfl
     refine Xm (i := 14) (N := some 25) (v := ?_) (a' := ?_) #[Zt,Zt,Zt,Zt,Zt,Zt,Zt,Zt,Zt,Zt,Zt,Zt,Zt,Zt,Zt,Zf,Zf,Zf,Zf,Zf,Zf,Zf,Zf,Zf,Zf,Zf,Zf,Zf,Zf,Zf,Zf,Zf,Zf,Zf,Zf,Zf] rfl rfl (Xk HT_.out (by kernel_rfl)) (fun _ _ _ h => h) (Or.inl ⟨by rfl, ?_⟩) ?_ ?_
     rotate_left
     ·intro w'
      go_simp
      with_reducible rfl
     rotate_left
     ·simp only [Act.put, Xa, Xb, Xc, Xh, Xi]
      rfl
     refine Xm (i := 17) (N := some 28) (v := ?_) (a' := ?_) #[Zt,Zt,Zt,Zt,Zt,Zt,Zt,Zt,Zt,Zt,Zt,Zt,Zt,Zt,Zt,Zf,Zf,Zt,Zf,Zf,Zf,Zf,Zf,Zf,Zf,Zf,Zf,Zf,Zf,Zf,Zf,Zf,Zf,Zf,Zf,Zf] rfl rfl (Xk HT_.out (by kernel_rfl)) (fun _ _ _ h => h) (Or.inl ⟨by rfl, ?_⟩) ?_ ?_
     rotate_left
     ·intro w'
      go_simp
      with_reducible rfl
     rotate_left
     ·simp only [Act.put, Xa, Xb, Xc, Xh, Xi]
      rfl
     refine Xm (i := 18) (N := some 29) (v := ?_) (a' := ?_) #[Zt,Zt,Zt,Zt,Zt,Zt,Zt,Zt,Zt,Zt,Zt,Zt,Zt,Zt,Zt,Zf,Zf,Zt,Zt,Zf,Zf,Zf,Zf,Zf,Zf,Zf,Zf,Zf,Zf,Zf,Zf,Zf,Zf,Zf,Zf,Zf] rfl rfl (Xk HT_.out (by kernel_rfl)) (fun _ _ _ h => h) (Or.inl ⟨by rfl, ?_⟩) ?_ ?_
     rotate_left
     ·intro w'
      go_simp
      with_reducible rfl
     rotate_left
     ·simp only [Act.put, Xa, Xb, Xc, Xh, Xi]
      rfl
     refine take_ (i := 15) (N := some 26) (v := ?_) (a' := ?_) #[Zt,Zt,Zt,Zt,Zt,Zt,Zt,Zt,Zt,Zt,Zt,Zt,Zt,Zt,Zt,Zt,Zf,Zt,Zt,Zf,Zf,Zf,Zf,Zf,Zf,Zf,Zf,Zf,Zf,Zf,Zf,Zf,Zf,Zf,Zf,Zf] rfl rfl (take_ofW HT_.out HW_.out (by kernel_rfl)) (fun _ _ _ h => h) (Or.inl ⟨by rfl, ?_⟩) hHeld ?_ ?_
     rotate_left
     ·rintro w' ⟨s0, s1, s2, s3, s4, s5, s6, s7, s8, s9, s10, s11, s12, s13, s14, s15, s16⟩
      go_simp
      with_reducible rfl
     rotate_left
     ·simp only [Act.put, Xa, Xb, Xc, Xh, Xi]
      rfl
     refine take_ (i := 19) (N := some 30) (v := ?_) (a' := ?_) #[Zt,Zt,Zt,Zt,Zt,Zt,Zt,Zt,Zt,Zt,Zt,Zt,Zt,Zt,Zt,Zt,Zf,Zt,Zt,Zt,Zf,Zf,Zf,Zf,Zf,Zf,Zf,Zf,Zf,Zf,Zf,Zf,Zf,Zf,Zf,Zf] rfl rfl (take_ofW HT_.out HW_.out (by kernel_rfl)) (fun _ _ _ h => h) (Or.inl ⟨by rfl, ?_⟩) hHeld ?_ ?_
     rotate_left
     ·rintro w' ⟨s0, s1, s2, s3, s4, s5, s6, s7, s8, s9, s10, s11, s12, s13, s14, s15, s16⟩
      go_simp
      with_reducible rfl
     rotate_left
     ·simp only [Act.put, Xa, Xb, Xc, Xh, Xi]
      rfl
     refine Xm (i := 20) (N := some 31) (v := ?_) (a' := ?_) #[Zt,Zt,Zt,Zt,Zt,Zt,Zt,Zt,Zt,Zt,Zt,Zt,Zt,Zt,Zt,Zt,Zf,Zt,Zt,Zt,Zt,Zf,Zf,Zf,Zf,Zf,Zf,Zf,Zf,Zf,Zf,Zf,Zf,Zf,Zf,Zf] rfl rfl (Xk HT_.out (by kernel_rfl)) (fun _ _ _ h => h) (Or.inl ⟨by rfl, ?_⟩) ?_ ?_
     rotate_left
     ·intro w'
      go_simp
      with_reducible rfl
     rotate_left
     ·simp only [Act.put, Xa, Xb, Xc, Xh, Xi]
      rfl
     refine Xm (i := 21) (N := some 32) (v := ?_) (a' := ?_) #[Zt,Zt,Zt,Zt,Zt,Zt,Zt,Zt,Zt,Zt,Zt,Zt,Zt,Zt,Zt,Zt,Zf,Zt,Zt,Zt,Zt,Zt,Zf,Zf,Zf,Zf,Zf,Zf,Zf,Zf,Zf,Zf,Zf,Zf,Zf,Zf] rfl rfl (Xk HT_.out (by kernel_rfl)) (fun _ _ _ h => h) (Or.inl ⟨by rfl, ?_⟩) ?_ ?_
     rotate_left
     ·intro w'
      go_simp
      with_reducible rfl
     rotate_left
     ·simp only [Act.put, Xa, Xb, Xc, Xh, Xi]
      rfl
     refine one_ (i := 16) (N := some 27) #[Zt,Zt,Zt,Zt,Zt,Zt,Zt,Zt,Zt,Zt,Zt,Zt,Zt,Zt,Zt,Zt,Zt,Zt,Zt,Zt,Zt,Zt,Zf,Zf,Zf,Zf,Zf,Zf,Zf,Zf,Zf,Zf,Zf,Zf,Zf,Zf] rfl rfl (one_of HT_.out (by kernel_rfl)) (by decide) (fun K hK => ?_)
     refine goes_ Try.func41 (by kernel_rfl) rfl #[.agg #[.int .i64 a0_0, .int .i64 a0_1, .int .i64 a0_2, .int .i64 a0_3, .int .i64 a0_4, .int .i64 a0_5, .int .i64 a0_6]] (by rfl) rfl rfl (by (try simp only [List.map_toArray, List.map_cons, List.map_nil]); first | done | rfl | (simp only [List.length_drop, List.length_take]; rfl)) ?_
     with_reducible refine (layer_Up.calls a0_0 a0_1 a0_2 a0_3 a0_4 a0_5 a0_6 t325 _ A11.out).mono ?_
     rintro e w30 ⟨rfl, hb⟩
     refine ⟨_, rfl, ?_⟩
     have n0_ := Za (Xl (g := gb299) (o := .cells #[.int .i64 a0_0, .int .i64 a0_1, .int .i64 a0_2, .int .i64 a0_3, .int .i64 a0_4, .int .i64 a0_5, .int .i64 a0_6] 55 (0, 0)) (bb_11 BK299.out) hb)
     have n1_ := Za (Xl (g := gb300) (o := .cells #[.int .i64 a1_0, .int .i64 a1_1, .int .i64 a1_2] 32 (0, 0)) (bb_11 BK300.out) hb)
     have n2_ := Za (Xl (g := gb309) (o := .cells #[.int .i64 t302, .int .i64 t303, .int .i64 t304, .int .i64 t305, .int .i64 t306, .int .i64 t307, .int .i64 t308] 55 (0, 0)) (bb_11 BK309.out) hb)
     have n3_ := Za (Xo (hb_11 HB.out) hb)
     clear BK299
     clear BK300
     clear BK309
     clear HB
     have BK299 := n0_
     have BK300 := n1_
     have BK309 := n2_
     have HB := n3_
     clear n0_ n1_ n2_ n3_
     (try clear hb)
     (try clear hb2)
     (try clear hk)
     (try clear hi)
     refine hK.out _ _ ⟨(Xd BK299.out 0).trans rfl, (Xd BK299.out 1).trans rfl, (Xd BK299.out 2).trans rfl, (Xd BK299.out 3).trans rfl, (Xd BK299.out 4).trans rfl, (Xd BK299.out 5).trans rfl, (Xd BK299.out 6).trans rfl, (Xd BK309.out 0).trans rfl, (Xd BK309.out 1).trans rfl, (Xd BK309.out 2).trans rfl, (Xd BK309.out 3).trans rfl, (Xd BK309.out 4).trans rfl, (Xd BK309.out 5).trans rfl, (Xd BK309.out 6).trans rfl, (Xd BK300.out 0).trans rfl, (Xd BK300.out 1).trans rfl, (Xd BK300.out 2).trans rfl⟩ (fun hHeld => ?_)
     clear hK K
     refine norm_ (a' := ?_) ?_ ?_
     rotate_left
     ·show Act.put _ (some 27) _ = _
      simp only [Act.put, Xa, Xb, Xc, Xh, Xi]
      rfl
     refine Xm (i := 22) (N := some 33) (v := ?_) (a' := ?_) #[Zt,Zt,Zt,Zt,Zt,Zt,Zt,Zt,Zt,Zt,Zt,Zt,Zt,Zt,Zt,Zt,Zt,Zt,Zt,Zt,Zt,Zt,Zt,Zf,Zf,Zf,Zf,Zf,Zf,Zf,Zf,Zf,Zf,Zf,Zf,Zf] rfl rfl (Xk HT_.out (by kernel_rfl)) (fun _ _ _ h => h) (Or.inl ⟨by rfl, ?_⟩) ?_ ?_
     rotate_left
     ·intro w'
      go_simp
      with_reducible rfl
     rotate_left
     ·simp only [Act.put, Xa, Xb, Xc, Xh, Xi]
      rfl
     refine Xm (i := 23) (N := some 34) (v := ?_) (a' := ?_) #[Zt,Zt,Zt,Zt,Zt,Zt,Zt,Zt,Zt,Zt,Zt,Zt,Zt,Zt,Zt,Zt,Zt,Zt,Zt,Zt,Zt,Zt,Zt,Zt,Zf,Zf,Zf,Zf,Zf,Zf,Zf,Zf,Zf,Zf,Zf,Zf] rfl rfl (Xk HT_.out (by kernel_rfl)) (fun _ _ _ h => h) (Or.inl ⟨by rfl, ?_⟩) ?_ ?_
     rotate_left
     ·intro w'
      go_simp
      with_reducible rfl
     rotate_left
     ·simp only [Act.put, Xa, Xb, Xc, Xh, Xi]
      rfl
     refine Xm (i := 24) (N := some 35) (v := ?_) (a' := ?_) #[Zt,Zt,Zt,Zt,Zt,Zt,Zt,Zt,Zt,Zt,Zt,Zt,Zt,Zt,Zt,Zt,Zt,Zt,Zt,Zt,Zt,Zt,Zt,Zt,Zt,Zf,Zf,Zf,Zf,Zf,Zf,Zf,Zf,Zf,Zf,Zf] rfl rfl (Xk HT_.out (by kernel_rfl)) (fun _ _ _ h => h) (Or.inl ⟨by rfl, ?_⟩) ?_ ?_
     rotate_left
     ·intro w'
      go_simp
      with_reducible rfl
     rotate_left
     ·simp only [Act.put, Xa, Xb, Xc, Xh, Xi]
      rfl
     refine Xm (i := 26) (N := some 37) (v := ?_) (a' := ?_) #[Zt,Zt,Zt,Zt,Zt,Zt,Zt,Zt,Zt,Zt,Zt,Zt,Zt,Zt,Zt,Zt,Zt,Zt,Zt,Zt,Zt,Zt,Zt,Zt,Zt,Zf,Zt,Zf,Zf,Zf,Zf,Zf,Zf,Zf,Zf,Zf] rfl rfl (Xk HT_.out (by kernel_rfl)) (fun _ _ _ h => h) (Or.inl ⟨by rfl, ?_⟩) ?_ ?_
     rotate_left
     ·intro w'
      go_simp
      with_reducible rfl
     rotate_left
     ·simp only [Act.put, Xa, Xb, Xc, Xh, Xi]
      rfl
     refine Xm (i := 28) (N := some 39) (v := ?_) (a' := ?_) #[Zt,Zt,Zt,Zt,Zt,Zt,Zt,Zt,Zt,Zt,Zt,Zt,Zt,Zt,Zt,Zt,Zt,Zt,Zt,Zt,Zt,Zt,Zt,Zt,Zt,Zf,Zt,Zf,Zt,Zf,Zf,Zf,Zf,Zf,Zf,Zf] rfl rfl (Xk HT_.out (by kernel_rfl)) (fun _ _ _ h => h) (Or.inl ⟨by rfl, ?_⟩) ?_ ?_
     rotate_left
     ·intro w'
      go_simp
      with_reducible rfl
     rotate_left
     ·simp only [Act.put, Xa, Xb, Xc, Xh, Xi]
      rfl
     refine take_ (i := 25) (N := some 36) (v := ?_) (a' := ?_) #[Zt,Zt,Zt,Zt,Zt,Zt,Zt,Zt,Zt,Zt,Zt,Zt,Zt,Zt,Zt,Zt,Zt,Zt,Zt,Zt,Zt,Zt,Zt,Zt,Zt,Zt,Zt,Zf,Zt,Zf,Zf,Zf,Zf,Zf,Zf,Zf] rfl rfl (take_ofW HT_.out HW_.out (by kernel_rfl)) (fun _ _ _ h => h) (Or.inl ⟨by rfl, ?_⟩) hHeld ?_ ?_
     rotate_left
     ·rintro w' ⟨s0, s1, s2, s3, s4, s5, s6, s7, s8, s9, s10, s11, s12, s13, s14, s15, s16⟩
      go_simp
      with_reducible rfl
     rotate_left
     ·simp only [Act.put, Xa, Xb, Xc, Xh, Xi]
      rfl
     refine take_ (i := 27) (N := some 38) (v := ?_) (a' := ?_) #[Zt,Zt,Zt,Zt,Zt,Zt,Zt,Zt,Zt,Zt,Zt,Zt,Zt,Zt,Zt,Zt,Zt,Zt,Zt,Zt,Zt,Zt,Zt,Zt,Zt,Zt,Zt,Zt,Zt,Zf,Zf,Zf,Zf,Zf,Zf,Zf] rfl rfl (take_ofW HT_.out HW_.out (by kernel_rfl)) (fun _ _ _ h => h) (Or.inl ⟨by rfl, ?_⟩) hHeld ?_ ?_
     rotate_left
     ·rintro w' ⟨s0, s1, s2, s3, s4, s5, s6, s7, s8, s9, s10, s11, s12, s13, s14, s15, s16⟩
      go_simp
      with_reducible rfl
     rotate_left
     ·simp only [Act.put, Xa, Xb, Xc, Xh, Xi]
      rfl
     refine take_ (i := 29) (N := some 40) (v := ?_) (a' := ?_) #[Zt,Zt,Zt,Zt,Zt,Zt,Zt,Zt,Zt,Zt,Zt,Zt,Zt,Zt,Zt,Zt,Zt,Zt,Zt,Zt,Zt,Zt,Zt,Zt,Zt,Zt,Zt,Zt,Zt,Zt,Zf,Zf,Zf,Zf,Zf,Zf] rfl rfl (take_ofW HT_.out HW_.out (by kernel_rfl)) (fun _ _ _ h => h) (Or.inl ⟨by rfl, ?_⟩) hHeld ?_ ?_
     rotate_left
     ·rintro w' ⟨s0, s1, s2, s3, s4, s5, s6, s7, s8, s9, s10, s11, s12, s13, s14, s15, s16⟩
      go_simp
      with_reducible rfl
     rotate_left
     ·simp only [Act.put, Xa, Xb, Xc, Xh, Xi]
      rfl
     refine take_ (i := 30) (N := some 41) (v := ?_) (a' := ?_) #[Zt,Zt,Zt,Zt,Zt,Zt,Zt,Zt,Zt,Zt,Zt,Zt,Zt,Zt,Zt,Zt,Zt,Zt,Zt,Zt,Zt,Zt,Zt,Zt,Zt,Zt,Zt,Zt,Zt,Zt,Zt,Zf,Zf,Zf,Zf,Zf] rfl rfl (take_ofW HT_.out HW_.out (by kernel_rfl)) (fun _ _ _ h => h) (Or.inl ⟨by rfl, ?_⟩) hHeld ?_ ?_
     rotate_left
     ·rintro w' ⟨s0, s1, s2, s3, s4, s5, s6, s7, s8, s9, s10, s11, s12, s13, s14, s15, s16⟩
      go_simp
      with_reducible rfl
     rotate_left
     ·simp only [Act.put, Xa, Xb, Xc, Xh, Xi]
      rfl
     refine one_ (i := 31) (N := some 42) #[Zt,Zt,Zt,Zt,Zt,Zt,Zt,Zt,Zt,Zt,Zt,Zt,Zt,Zt,Zt,Zt,Zt,Zt,Zt,Zt,Zt,Zt,Zt,Zt,Zt,Zt,Zt,Zt,Zt,Zt,Zt,Zt,Zf,Zf,Zf,Zf] rfl rfl (one_of HT_.out (by kernel_rfl)) (by decide) (fun K hK => ?_)
     refine goes_ Try.func42 (by kernel_rfl) rfl #[.agg #[.int .i64 a0_4, .int .i64 a0_5, .int .i64 a0_6], .agg #[.int .i64 a1_0, .int .i64 a1_1, .int .i64 a1_2]] (by rfl) rfl rfl (by (try simp only [List.map_toArray, List.map_cons, List.map_nil]); first | done | rfl | (simp only [List.length_drop, List.length_take]; rfl)) ?_
     with_reducible refine (gatherumref04_Then.calls k a0_4 a0_5 a0_6 a1_0 a1_1 a1_2 t326 t327 t328 _ A13.out).mono ?_
     rintro e w31 ⟨rfl, hb⟩
     refine ⟨_, rfl, ?_⟩
     have n0_ := Za (Xl (g := gb299) (o := .cells #[.int .i64 a0_0, .int .i64 a0_1, .int .i64 a0_2, .int .i64 a0_3, .int .i64 a0_4, .int .i64 a0_5, .int .i64 a0_6] 55 (0, 0)) (bb_11 BK299.out) hb)
     have n1_ := Za (Xl (g := gb300) (o := .cells #[.int .i64 a1_0, .int .i64 a1_1, .int .i64 a1_2] 32 (0, 0)) (bb_11 BK300.out) hb)
     have n2_ := Za (Xl (g := gb309) (o := .cells #[.int .i64 t302, .int .i64 t303, .int .i64 t304, .int .i64 t305, .int .i64 t306, .int .i64 t307, .int .i64 t308] 55 (0, 0)) (bb_11 BK309.out) hb)
     have n3_ := Za (Xo (hb_11 HB.out) hb)
     clear BK299
     clear BK300
     clear BK309
     clear HB
     have BK299 := n0_
     have BK300 := n1_
     have BK309 := n2_
     have HB := n3_
     clear n0_ n1_ n2_ n3_
     (try clear hb)
     (try clear hb2)
     (try clear hk)
     (try clear hi)
     refine hK.out _ _ ⟨(Xd BK299.out 0).trans rfl, (Xd BK299.out 1).trans rfl, (Xd BK299.out 2).trans rfl, (Xd BK299.out 3).trans rfl, (Xd BK299.out 4).trans rfl, (Xd BK299.out 5).trans rfl, (Xd BK299.out 6).trans rfl, (Xd BK309.out 0).trans rfl, (Xd BK309.out 1).trans rfl, (Xd BK309.out 2).trans rfl, (Xd BK309.out 3).trans rfl, (Xd BK309.out 4).trans rfl, (Xd BK309.out 5).trans rfl, (Xd BK309.out 6).trans rfl, (Xd BK300.out 0).trans rfl, (Xd BK300.out 1).trans rfl, (Xd BK300.out 2).trans rfl⟩ (fun hHeld => ?_)
     clear hK K
     refine norm_ (a' := ?_) ?_ ?_
     rotate_left
     ·show Act.put _ (some 42) _ = _
      simp only [Act.put, Xa, Xb, Xc, Xh, Xi]
      rfl
     refine Xm (i := 32) (N := some 43) (v := ?_) (a' := ?_) #[Zt,Zt,Zt,Zt,Zt,Zt,Zt,Zt,Zt,Zt,Zt,Zt,Zt,Zt,Zt,Zt,Zt,Zt,Zt,Zt,Zt,Zt,Zt,Zt,Zt,Zt,Zt,Zt,Zt,Zt,Zt,Zt,Zt,Zf,Zf,Zf] rfl rfl (Xk HT_.out (by kernel_rfl)) (fun _ _ _ h => h) (Or.inl ⟨by rfl, ?_⟩) ?_ ?_
     rotate_left
     ·intro w'
      go_simp
      with_reducible rfl
     rotate_left
     ·simp only [Act.put, Xa, Xb, Xc, Xh, Xi]
      rfl
     refine Xm (i := 33) (N := some 44) (v := ?_) (a' := ?_) #[Zt,Zt,Zt,Zt,Zt,Zt,Zt,Zt,Zt,Zt,Zt,Zt,Zt,Zt,Zt,Zt,Zt,Zt,Zt,Zt,Zt,Zt,Zt,Zt,Zt,Zt,Zt,Zt,Zt,Zt,Zt,Zt,Zt,Zt,Zf,Zf] rfl rfl (Xk HT_.out (by kernel_rfl)) (fun _ _ _ h => h) (Or.inl ⟨by rfl, ?_⟩) ?_ ?_
     rotate_left
     ·intro w'
      go_simp
      with_reducible rfl
     rotate_left
     ·simp only [Act.put, Xa, Xb, Xc, Xh, Xi]
      rfl
     refine Xm (i := 34) (N := some 45) (v := ?_) (a' := ?_) #[Zt,Zt,Zt,Zt,Zt,Zt,Zt,Zt,Zt,Zt,Zt,Zt,Zt,Zt,Zt,Zt,Zt,Zt,Zt,Zt,Zt,Zt,Zt,Zt,Zt,Zt,Zt,Zt,Zt,Zt,Zt,Zt,Zt,Zt,Zt,Zf] rfl rfl (Xk HT_.out (by kernel_rfl)) (fun _ _ _ h => h) (Or.inl ⟨by rfl, ?_⟩) ?_ ?_
     rotate_left
     ·intro w'
      go_simp
      with_reducible rfl
     rotate_left
     ·simp only [Act.put, Xa, Xb, Xc, Xh, Xi]
      rfl
     refine Xm (i := 35) (N := some 4) (v := ?_) (a' := ?_) #[Zt,Zt,Zt,Zt,Zt,Zt,Zt,Zt,Zt,Zt,Zt,Zt,Zt,Zt,Zt,Zt,Zt,Zt,Zt,Zt,Zt,Zt,Zt,Zt,Zt,Zt,Zt,Zt,Zt,Zt,Zt,Zt,Zt,Zt,Zt,Zt] rfl rfl (Xk HT_.out (by kernel_rfl)) (fun _ _ _ h => h) (Or.inl ⟨by rfl, ?_⟩) ?_ ?_
     rotate_left
     ·intro w'
      go_simp
      with_reducible rfl
     rotate_left
     ·simp only [Act.put, Xa, Xb, Xc, Xh, Xi]
      rfl
     refine done_ (done_of HT_.out (by kernel_rfl)) ?_
     try go_wp2
     go_ret
     exact ⟨by first | rfl | (simp [errW_none, errW_some] <;> rfl) | (simp [*, errW_none, errW_some] <;> rfl), by repeat (first | (with_reducible first | exact HB.out | apply below_alloc | apply pw_below_drewN | apply below_drew1 | refine below_set ?_ GE299.out | refine below_set ?_ GE300.out | refine below_set ?_ GE309.out) | exact HB.out)⟩
    ·rw [if_neg c12] at H
     have c12b0 : (t325 == ((Go.bits .and .i64 a0_4 4) == 0)) = Zf := by simpa using c12
     (try (have c12b1 : decide (t325 = ((Go.bits .and .i64 a0_4 4) == 0)) = Zf := by simpa using c12))
     (try (have c12b2 : (t325 == ((Go.bits .and .i64 a0_4 4) == 0)) = Zf := by simpa using c12))
     (try (have c12b3 : ¬ (t325 = ((Go.bits .and .i64 a0_4 4) == 0)) := by simpa using c12))
     clear c12
     obtain rfl := Option.some.inj H
     go_enter Try.func6, Try.ntmps6
     try go_wp2_with (first | ((with_reducible refine gate_dst (N := 2) rfl ?_); refine box_event ?hg (N := 2) ?hd (cs := #[.int .i64 a0_0, .int .i64 a0_1, .int .i64 a0_2, .int .i64 a0_3, .int .i64 a0_4, .int .i64 a0_5, .int .i64 a0_6]) (t := 55) ?hr ?_; (case hd => rfl); (case hg => rfl); (case hr => first | (go_simp; done) | (go_simp; rfl)); intro gb299 hg w32 hbox hb; have n0_ := Za (Xo (hb_11 HB.out) hb); have n1_ := Za (hbox); have n2_ := Za ((by rw [hg]; exact (Xp (hb_11 HB.out)) : w.heap.size ≤ gb299)); have n3_ := Za ((by rw [hg]; exact (Xp (hb_11 HB.out)) : w.heap.size ≤ gb299)); clear HB; have HB := n0_; have BK299 := n1_; have GW299 := n2_; have GE299 := n3_; clear n0_ n1_ n2_ n3_; clear hb hbox hg) | ((with_reducible refine gate_dst (N := 3) rfl ?_); refine box_event ?hg (N := 3) ?hd (cs := #[.int .i64 a1_0, .int .i64 a1_1, .int .i64 a1_2]) (t := 32) ?hr ?_; (case hd => rfl); (case hg => rfl); (case hr => first | (go_simp; done) | (go_simp; rfl)); intro gb300 hg w33 hbox hb; have n0_ := Za (Xl (g := gb299) (o := .cells #[.int .i64 a0_0, .int .i64 a0_1, .int .i64 a0_2, .int .i64 a0_3, .int .i64 a0_4, .int .i64 a0_5, .int .i64 a0_6] 55 (0, 0)) (bb_11 BK299.out) hb); have n1_ := Za (Xo (hb_11 HB.out) hb); have n2_ := Za (hbox); have n3_ := Za ((by rw [hg]; exact (Xp (hb_11 HB.out)) : w.heap.size ≤ gb300)); have n4_ := Za ((by rw [hg]; exact (Xp (hb_11 HB.out)) : w.heap.size ≤ gb300)); have n5_ := Za ((by rw [hg]; exact Nat.ne_of_lt (blk_lt (g := gb299) (o := .cells #[.int .i64 a0_0, .int .i64 a0_1, .int .i64 a0_2, .int .i64 a0_3, .int .i64 a0_4, .int .i64 a0_5, .int .i64 a0_6] 55 (0, 0)) (bb_11 BK299.out)) : gb299 ≠ gb300)); have n6_ := Za ((by rw [hg]; exact Nat.ne_of_gt (blk_lt (g := gb299) (o := .cells #[.int .i64 a0_0, .int .i64 a0_1, .int .i64 a0_2, .int .i64 a0_3, .int .i64 a0_4, .int .i64 a0_5, .int .i64 a0_6] 55 (0, 0)) (bb_11 BK299.out)) : gb300 ≠ gb299)); clear BK299; clear HB; have BK299 := n0_; have HB := n1_; have BK300 := n2_; have GW300 := n3_; have GE300 := n4_; have NB299_300 := n5_; have NB300_299 := n6_; clear n0_ n1_ n2_ n3_ n4_ n5_ n6_; clear hb hbox hg) | ((with_reducible refine gate_callee (f := 36) rfl ?_); refine goesL_ (some 6) rfl rfl Try.func36 (by kernel_rfl) rfl #[] rfl (by (try simp only [List.map_toArray, List.map_cons, List.map_nil]); first | done | rfl | (simp only [List.length_drop, List.length_take]; rfl)) ?_; (with_reducible refine (gatherumlaw38_alive.calls k  Zt _ A3.out).mono ?_); rintro e w34 ⟨rfl, hb⟩; refine ⟨_, rfl, ?_⟩; have n0_ := Za (Xl (g := gb299) (o := .cells #[.int .i64 a0_0, .int .i64 a0_1, .int .i64 a0_2, .int .i64 a0_3, .int .i64 a0_4, .int .i64 a0_5, .int .i64 a0_6] 55 (0, 0)) (bb_11 BK299.out) hb); have n1_ := Za (Xl (g := gb300) (o := .cells #[.int .i64 a1_0, .int .i64 a1_1, .int .i64 a1_2] 32 (0, 0)) (bb_11 BK300.out) hb); have n2_ := Za (Xo (hb_11 HB.out) hb); clear BK299; clear BK300; clear HB; have BK299 := n0_; have BK300 := n1_; have HB := n2_; clear n0_ n1_ n2_; (try clear hb); (try clear hb2); (try clear hk); (try clear hi); have hnb35 := NB299_300.out; have hnc35 := NB300_299.out; have hcz36_0 : w34.cell? ⟨gb299, 0, none⟩ = some (.int .i64 a0_0) := (Xd BK299.out 0).trans rfl; have hcz36_1 : w34.cell? ⟨gb299, 1, none⟩ = some (.int .i64 a0_1) := (Xd BK299.out 1).trans rfl; have hcz36_2 : w34.cell? ⟨gb299, 2, none⟩ = some (.int .i64 a0_2) := (Xd BK299.out 2).trans rfl; have hcz36_3 : w34.cell? ⟨gb299, 3, none⟩ = some (.int .i64 a0_3) := (Xd BK299.out 3).trans rfl; have hcz36_4 : w34.cell? ⟨gb299, 4, none⟩ = some (.int .i64 a0_4) := (Xd BK299.out 4).trans rfl; have hcz36_5 : w34.cell? ⟨gb299, 5, none⟩ = some (.int .i64 a0_5) := (Xd BK299.out 5).trans rfl; have hcz36_6 : w34.cell? ⟨gb299, 6, none⟩ = some (.int .i64 a0_6) := (Xd BK299.out 6).trans rfl; have hfz36_0 := Xj BK299.out 0; have hfz36_1 := Xj BK299.out 1; have hfz36_2 := Xj BK299.out 2; have hfz36_3 := Xj BK299.out 3; have hfz36_4 := Xj BK299.out 4; have hfz36_5 := Xj BK299.out 5; have hfz36_6 := Xj BK299.out 6; have hcz37_0 : w34.cell? ⟨gb300, 0, none⟩ = some (.int .i64 a1_0) := (Xd BK300.out 0).trans rfl; have hcz37_1 : w34.cell? ⟨gb300, 1, none⟩ = some (.int .i64 a1_1) := (Xd BK300.out 1).trans rfl; have hcz37_2 : w34.cell? ⟨gb300, 2, none⟩ = some (.int .i64 a1_2) := (Xd BK300.out 2).trans rfl; have hfz37_0 := Xj BK300.out 0; have hfz37_1 := Xj BK300.out 1; have hfz37_2 := Xj BK300.out 2) | ((with_reducible refine gate_callee (f := 37) rfl ?_); refine goesL_ (some 10) rfl rfl Try.func37 (by kernel_rfl) rfl #[.agg #[.int .i64 a0_0, .int .i64 a0_1, .int .i64 a0_2, .int .i64 a0_3, .int .i64 a0_4, .int .i64 a0_5, .int .i64 a0_6], .agg #[.int .i64 a1_0, .int .i64 a1_1, .int .i64 a1_2]] rfl (by (try simp only [List.map_toArray, List.map_cons, List.map_nil]); first | done | rfl | (simp only [List.length_drop, List.length_take]; rfl)) ?_; (with_reducible refine (layer_Lay.calls k a0_0 a0_1 a0_2 a0_3 a0_4 a0_5 a0_6 a1_0 a1_1 a1_2 t302 t303 t304 t305 t306 t307 t308 _ A5.out).mono ?_); rintro e w38 ⟨rfl, hb⟩; refine ⟨_, rfl, ?_⟩; have n0_ := Za (Xl (g := gb299) (o := .cells #[.int .i64 a0_0, .int .i64 a0_1, .int .i64 a0_2, .int .i64 a0_3, .int .i64 a0_4, .int .i64 a0_5, .int .i64 a0_6] 55 (0, 0)) (bb_11 BK299.out) hb); have n1_ := Za (Xl (g := gb300) (o := .cells #[.int .i64 a1_0, .int .i64 a1_1, .int .i64 a1_2] 32 (0, 0)) (bb_11 BK300.out) hb); have n2_ := Za (Xo (hb_11 HB.out) hb); clear BK299; clear BK300; clear HB; have BK299 := n0_; have BK300 := n1_; have HB := n2_; clear n0_ n1_ n2_; (try clear hb); (try clear hb2); (try clear hk); (try clear hi)) | ((with_reducible refine gate_dst (N := 5) rfl ?_); refine box_event ?hg (N := 5) ?hd (cs := #[.int .i64 0, .int .i64 0, .int .i64 0, .int .i64 0, .int .i64 0, .int .i64 0, .int .i64 0]) (t := 55) ?hr ?_; (case hd => rfl); (case hg => rfl); (case hr => first | (go_simp; done) | (go_simp; rfl)); intro gb309 hg w39 hbox hb; have n0_ := Za (Xl (g := gb299) (o := .cells #[.int .i64 a0_0, .int .i64 a0_1, .int .i64 a0_2, .int .i64 a0_3, .int .i64 a0_4, .int .i64 a0_5, .int .i64 a0_6] 55 (0, 0)) (bb_11 BK299.out) hb); have n1_ := Za (Xl (g := gb300) (o := .cells #[.int .i64 a1_0, .int .i64 a1_1, .int .i64 a1_2] 32 (0, 0)) (bb_11 BK300.out) hb); have n2_ := Za (Xo (hb_11 HB.out) hb); have n3_ := Za (hbox); have n4_ := Za ((by rw [hg]; exact (Xp (hb_11 HB.out)) : w.heap.size ≤ gb309)); have n5_ := Za ((by rw [hg]; exact (Xp (hb_11 HB.out)) : w.heap.size ≤ gb309)); have n6_ := Za ((by rw [hg]; exact Nat.ne_of_lt (blk_lt (g := gb299) (o := .cells #[.int .i64 a0_0, .int .i64 a0_1, .int .i64 a0_2, .int .i64 a0_3, .int .i64 a0_4, .int .i64 a0_5, .int .i64 a0_6] 55 (0, 0)) (bb_11 BK299.out)) : gb299 ≠ gb309)); have n7_ := Za ((by rw [hg]; exact Nat.ne_of_gt (blk_lt (g := gb299) (o := .cells #[.int .i64 a0_0, .int .i64 a0_1, .int .i64 a0_2, .int .i64 a0_3, .int .i64 a0_4, .int .i64 a0_5, .int .i64 a0_6] 55 (0, 0)) (bb_11 BK299.out)) : gb309 ≠ gb299)); have n8_ := Za ((by rw [hg]; exact Nat.ne_of_lt (blk_lt (g := gb300) (o := .cells #[.int .i64 a1_0, .int .i64 a1_1, .int .i64 a1_2] 32 (0, 0)) (bb_11 BK300.out)) : gb300 ≠ gb309)); have n9_ := Za ((by rw [hg]; exact Nat.ne_of_gt (blk_lt (g := gb300) (o := .cells #[.int .i64 a1_0, .int .i64 a1_1, .int .i64 a1_2] 32 (0, 0)) (bb_11 BK300.out)) : gb309 ≠ gb300)); clear BK299; clear BK300; clear HB; have BK299 := n0_; have BK300 := n1_; have HB := n2_; have BK309 := n3_; have GW309 := n4_; have GE309 := n5_; have NB299_309 := n6_; have NB309_299 := n7_; have NB300_309 := n8_; have NB309_300 := n9_; clear n0_ n1_ n2_ n3_ n4_ n5_ n6_ n7_ n8_ n9_; clear hb hbox hg; have hnb40 := NB309_299.out; have hnc40 := NB299_309.out; have hnb41 := NB309_300.out; have hnc41 := NB300_309.out; have hcz42_0 : w39.cell? ⟨gb309, 0, none⟩ = some (.int .i64 0) := (Xd BK309.out 0).trans rfl; have hcz42_1 : w39.cell? ⟨gb309, 1, none⟩ = some (.int .i64 0) := (Xd BK309.out 1).trans rfl; have hcz42_2 : w39.cell? ⟨gb309, 2, none⟩ = some (.int .i64 0) := (Xd BK309.out 2).trans rfl; have hcz42_3 : w39.cell? ⟨gb309, 3, none⟩ = some (.int .i64 0) := (Xd BK309.out 3).trans rfl; have hcz42_4 : w39.cell? ⟨gb309, 4, none⟩ = some (.int .i64 0) := (Xd BK309.out 4).trans rfl; have hcz42_5 : w39.cell? ⟨gb309, 5, none⟩ = some (.int .i64 0) := (Xd BK309.out 5).trans rfl; have hcz42_6 : w39.cell? ⟨gb309, 6, none⟩ = some (.int .i64 0) := (Xd BK309.out 6).trans rfl; have hfz42_0 := Xj BK309.out 0; have hfz42_1 := Xj BK309.out 1; have hfz42_2 := Xj BK309.out 2; have hfz42_3 := Xj BK309.out 3; have hfz42_4 := Xj BK309.out 4; have hfz42_5 := Xj BK309.out 5; have hfz42_6 := Xj BK309.out 6))
     have n0_ : Aside0 ((((((((w39.setCell ⟨gb309, 0, none⟩ (.int .i64 t302)).setCell ⟨gb309, 1, none⟩ (.int .i64 t303)).setCell ⟨gb309, 2, none⟩ (.int .i64 t304)).setCell ⟨gb309, 3, none⟩ (.int .i64 t305)).setCell ⟨gb309, 4, none⟩ (.int .i64 t306)).setCell ⟨gb309, 5, none⟩ (.int .i64 t307)).setCell ⟨gb309, 6, none⟩ (.int .i64 t308)).heap[gb299]? = some (.cells #[.int .i64 a0_0, .int .i64 a0_1, .int .i64 a0_2, .int .i64 a0_3, .int .i64 a0_4, .int .i64 a0_5, .int .i64 a0_6] 55 (0, 0))) := ⟨by (with_reducible repeat (first | refine Xe ?_ _ | refine Xf ?_ | refine Xg ?_ _)); refine Xn ?_ NB299_309.out _; (with_reducible repeat (first | refine Xe ?_ _ | refine Xf ?_ | refine Xg ?_ _)); refine Xn ?_ NB299_309.out _; (with_reducible repeat (first | refine Xe ?_ _ | refine Xf ?_ | refine Xg ?_ _)); refine Xn ?_ NB299_309.out _; (with_reducible repeat (first | refine Xe ?_ _ | refine Xf ?_ | refine Xg ?_ _)); refine Xn ?_ NB299_309.out _; (with_reducible repeat (first | refine Xe ?_ _ | refine Xf ?_ | refine Xg ?_ _)); refine Xn ?_ NB299_309.out _; (with_reducible repeat (first | refine Xe ?_ _ | refine Xf ?_ | refine Xg ?_ _)); refine Xn ?_ NB299_309.out _; (with_reducible repeat (first | refine Xe ?_ _ | refine Xf ?_ | refine Xg ?_ _)); refine Xn ?_ NB299_309.out _; (with_reducible repeat (first | refine Xe ?_ _ | refine Xf ?_ | refine Xg ?_ _)); exact BK299.out⟩
     have n1_ : Aside0 ((((((((w39.setCell ⟨gb309, 0, none⟩ (.int .i64 t302)).setCell ⟨gb309, 1, none⟩ (.int .i64 t303)).setCell ⟨gb309, 2, none⟩ (.int .i64 t304)).setCell ⟨gb309, 3, none⟩ (.int .i64 t305)).setCell ⟨gb309, 4, none⟩ (.int .i64 t306)).setCell ⟨gb309, 5, none⟩ (.int .i64 t307)).setCell ⟨gb309, 6, none⟩ (.int .i64 t308)).heap[gb300]? = some (.cells #[.int .i64 a1_0, .int .i64 a1_1, .int .i64 a1_2] 32 (0, 0))) := ⟨by (with_reducible repeat (first | refine Xe ?_ _ | refine Xf ?_ | refine Xg ?_ _)); refine Xn ?_ NB300_309.out _; (with_reducible repeat (first | refine Xe ?_ _ | refine Xf ?_ | refine Xg ?_ _)); refine Xn ?_ NB300_309.out _; (with_reducible repeat (first | refine Xe ?_ _ | refine Xf ?_ | refine Xg ?_ _)); refine Xn ?_ NB300_309.out _; (with_reducible repeat (first | refine Xe ?_ _ | refine Xf ?_ | refine Xg ?_ _)); refine Xn ?_ NB300_309.out _; (with_reducible repeat (first | refine Xe ?_ _ | refine Xf ?_ | refine Xg ?_ _)); refine Xn ?_ NB300_309.out _; (with_reducible repeat (first | refine Xe ?_ _ | refine Xf ?_ | refine Xg ?_ _)); refine Xn ?_ NB300_309.out _; (with_reducible repeat (first | refine Xe ?_ _ | refine Xf ?_ | refine Xg ?_ _)); refine Xn ?_ NB300_309.out _; (with_reducible repeat (first | refine Xe ?_ _ | refine Xf ?_ | refine Xg ?_ _)); exact BK300.out⟩
     have n2_ : Aside0 ((((((((w39.setCell ⟨gb309, 0, none⟩ (.int .i64 t302)).setCell ⟨gb309, 1, none⟩ (.int .i64 t303)).setCell ⟨gb309, 2, none⟩ (.int .i64 t304)).setCell ⟨gb309, 3, none⟩ (.int .i64 t305)).setCell ⟨gb309, 4, none⟩ (.int .i64 t306)).setCell ⟨gb309, 5, none⟩ (.int .i64 t307)).setCell ⟨gb309, 6, none⟩ (.int .i64 t308)).heap[gb309]? = some (.cells #[.int .i64 t302, .int .i64 t303, .int .i64 t304, .int .i64 t305, .int .i64 t306, .int .i64 t307, .int .i64 t308] 55 (0, 0))) := ⟨by (with_reducible repeat (first | refine Xe ?_ _ | refine Xf ?_ | refine Xg ?_ _)); refine blk_put (cs := #[.int .i64 t302, .int .i64 t303, .int .i64 t304, .int .i64 t305, .int .i64 t306, .int .i64 t307, .int .i64 0]) ?_ 6 _ rfl; (with_reducible repeat (first | refine Xe ?_ _ | refine Xf ?_ | refine Xg ?_ _)); refine blk_put (cs := #[.int .i64 t302, .int .i64 t303, .int .i64 t304, .int .i64 t305, .int .i64 t306, .int .i64 0, .int .i64 0]) ?_ 5 _ rfl; (with_reducible repeat (first | refine Xe ?_ _ | refine Xf ?_ | refine Xg ?_ _)); refine blk_put (cs := #[.int .i64 t302, .int .i64 t303, .int .i64 t304, .int .i64 t305, .int .i64 0, .int .i64 0, .int .i64 0]) ?_ 4 _ rfl; (with_reducible repeat (first | refine Xe ?_ _ | refine Xf ?_ | refine Xg ?_ _)); refine blk_put (cs := #[.int .i64 t302, .int .i64 t303, .int .i64 t304, .int .i64 0, .int .i64 0, .int .i64 0, .int .i64 0]) ?_ 3 _ rfl; (with_reducible repeat (first | refine Xe ?_ _ | refine Xf ?_ | refine Xg ?_ _)); refine blk_put (cs := #[.int .i64 t302, .int .i64 t303, .int .i64 0, .int .i64 0, .int .i64 0, .int .i64 0, .int .i64 0]) ?_ 2 _ rfl; (with_reducible repeat (first | refine Xe ?_ _ | refine Xf ?_ | refine Xg ?_ _)); refine blk_put (cs := #[.int .i64 t302, .int .i64 0, .int .i64 0, .int .i64 0, .int .i64 0, .int .i64 0, .int .i64 0]) ?_ 1 _ rfl; (with_reducible repeat (first | refine Xe ?_ _ | refine Xf ?_ | refine Xg ?_ _)); refine blk_put (cs := #[.int .i64 0, .int .i64 0, .int .i64 0, .int .i64 0, .int .i64 0, .int .i64 0, .int .i64 0]) ?_ 0 _ rfl; (with_reducible repeat (first | refine Xe ?_ _ | refine Xf ?_ | refine Xg ?_ _)); exact BK309.out⟩
     have n3_ : Aside0 (Below w.heap.size w (((((((w39.setCell ⟨gb309, 0, none⟩ (.int .i64 t302)).setCell ⟨gb309, 1, none⟩ (.int .i64 t303)).setCell ⟨gb309, 2, none⟩ (.int .i64 t304)).setCell ⟨gb309, 3, none⟩ (.int .i64 t305)).setCell ⟨gb309, 4, none⟩ (.int .i64 t306)).setCell ⟨gb309, 5, none⟩ (.int .i64 t307)).setCell ⟨gb309, 6, none⟩ (.int .i64 t308))) := ⟨by repeat (first | (with_reducible first | exact HB.out | apply below_alloc | apply pw_below_drewN | apply below_drew1 | refine below_set ?_ GE299.out | refine below_set ?_ GE300.out | refine below_set ?_ GE309.out) | exact HB.out)⟩
     (try clear BK299)
     (try clear BK300)
     (try clear BK309)
     (try clear HB)
     generalize (((((((w39.setCell ⟨gb309, 0, none⟩ (.int .i64 t302)).setCell ⟨gb309, 1, none⟩ (.int .i64 t303)).setCell ⟨gb309, 2, none⟩ (.int .i64 t304)).setCell ⟨gb309, 3, none⟩ (.int .i64 t305)).setCell ⟨gb309, 4, none⟩ (.int .i64 t306)).setCell ⟨gb309, 5, none⟩ (.int .i64 t307)).setCell ⟨gb309, 6, none⟩ (.int .i64 t308)) = w43 at n0_ n1_ n2_ n3_ ⊢
     have BK299 := n0_
     have BK300 := n1_
     have BK309 := n2_
     have HB := n3_
     clear n0_ n1_ n2_ n3_
     have n0_ := Za (Xf BK299.out)
     have n1_ := Za (Xf BK300.out)
     have n2_ := Za (Xf BK309.out)
     have n3_ := Za (below_drew1 HB.out)
     clear BK299
     clear BK300
     clear BK309
     clear HB
     have BK299 := n0_
     have BK300 := n1_
     have BK309 := n2_
     have HB := n3_
     clear n0_ n1_ n2_ n3_
     refine start_ (n := 36) (S := fun w' => w'.cell? ⟨gb299, 0, none⟩ = some (.int .i64 a0_0) ∧ w'.cell? ⟨gb299, 1, none⟩ = some (.int .i64 a0_1) ∧ w'.cell? ⟨gb299, 2, none⟩ = some (.int .i64 a0_2) ∧ w'.cell? ⟨gb299, 3, none⟩ = some (.int .i64 a0_3) ∧ w'.cell? ⟨gb299, 4, none⟩ = some (.int .i64 a0_4) ∧ w'.cell? ⟨gb299, 5, none⟩ = some (.int .i64 a0_5) ∧ w'.cell? ⟨gb299, 6, none⟩ = some (.int .i64 a0_6)) (ds := []) #[Zf,Zf,Zf,Zf,Zf,Zf,Zf,Zf,Zf,Zf,Zf,Zf,Zf,Zf,Zf,Zf,Zf,Zf,Zf,Zf,Zf,Zf,Zf,Zf,Zf,Zf,Zf,Zf,Zf,Zf,Zf,Zf,Zf,Zf,Zf,Zf] (by kernel_rfl) rfl rfl ⟨(Xd BK299.out 0).trans rfl, (Xd BK299.out 1).trans rfl, (Xd BK299.out 2).trans rfl, (Xd BK299.out 3).trans rfl, (Xd BK299.out 4).trans rfl, (Xd BK299.out 5).trans rfl, (Xd BK299.out 6).trans rfl⟩ (fun hHeld => ?_); refine with_tabW gatherumlaw38_LayerLies.tab4 gatherumlaw38_LayerLies.bits4 (fun HT_ HW_ => ?_)
     generalize w43.drew = w44 at BK299 BK300 BK309 HB hHeld ⊢
     refine Xm (i := 0) (N := some 11) (v := ?_) (a' := ?_) #[Zt,Zf,Zf,Zf,Zf,Zf,Zf,Zf,Zf,Zf,Zf,Zf,Zf,Zf,Zf,Zf,Zf,Zf,Zf,Zf,Zf,Zf,Zf,Zf,Zf,Zf,Zf,Zf,Zf,Zf,Zf,Zf,Zf,Zf,Zf,Zf] rfl rfl (Xk HT_.out (by kernel_rfl)) (fun _ _ _ h => h) (Or.inl ⟨by rfl, ?_⟩) ?_ ?_
     rotate_left
     ·intro w'
      go_simp
      with_reducible rfl
     rotate_left
     ·simp only [Act.put, Xa, Xb, Xc, Xh, Xi]
      rfl
     refine Xm (i := 3) (N := some 14) (v := ?_) (a' := ?_) #[Zt,Zf,Zf,Zt,Zf,Zf,Zf,Zf,Zf,Zf,Zf,Zf,Zf,Zf,Zf,Zf,Zf,Zf,Zf,Zf,Zf,Zf,Zf,Zf,Zf,Zf,Zf,Zf,Zf,Zf,Zf,Zf,Zf,Zf,Zf,Zf] rfl rfl (Xk HT_.out (by kernel_rfl)) (fun _ _ _ h => h) (Or.inl ⟨by rfl, ?_⟩) ?_ ?_
     rotate_left
     ·intro w'
      go_simp
      with_reducible rfl
     rotate_left
     ·simp only [Act.put, Xa, Xb, Xc, Xh, Xi]
      rfl
     refine take_ (i := 1) (N := some 12) (v := ?_) (a' := ?_) #[Zt,Zt,Zf,Zt,Zf,Zf,Zf,Zf,Zf,Zf,Zf,Zf,Zf,Zf,Zf,Zf,Zf,Zf,Zf,Zf,Zf,Zf,Zf,Zf,Zf,Zf,Zf,Zf,Zf,Zf,Zf,Zf,Zf,Zf,Zf,Zf] rfl rfl (take_ofW HT_.out HW_.out (by kernel_rfl)) (fun _ _ _ h => h) (Or.inl ⟨by rfl, ?_⟩) hHeld ?_ ?_
     rotate_left
     ·rintro w' ⟨s0, s1, s2, s3, s4, s5, s6⟩
      go_simp
      with_reducible rfl
     rotate_left
     ·simp only [Act.put, Xa, Xb, Xc, Xh, Xi]
      rfl
     refine take_ (i := 4) (N := some 15) (v := ?_) (a' := ?_) #[Zt,Zt,Zf,Zt,Zt,Zf,Zf,Zf,Zf,Zf,Zf,Zf,Zf,Zf,Zf,Zf,Zf,Zf,Zf,Zf,Zf,Zf,Zf,Zf,Zf,Zf,Zf,Zf,Zf,Zf,Zf,Zf,Zf,Zf,Zf,Zf] rfl rfl (take_ofW HT_.out HW_.out (by kernel_rfl)) (fun _ _ _ h => h) (Or.inl ⟨by rfl, ?_⟩) hHeld ?_ ?_
     rotate_left
     ·rintro w' ⟨s0, s1, s2, s3, s4, s5, s6⟩
      go_simp
      with_reducible rfl
     rotate_left
     ·simp only [Act.put, Xa, Xb, Xc, Xh, Xi]
      rfl
     refine Xm (i := 5) (N := some 16) (v := ?_) (a' := ?_) #[Zt,Zt,Zf,Zt,Zt,Zt,Zf,Zf,Zf,Zf,Zf,Zf,Zf,Zf,Zf,Zf,Zf,Zf,Zf,Zf,Zf,Zf,Zf,Zf,Zf,Zf,Zf,Zf,Zf,Zf,Zf,Zf,Zf,Zf,Zf,Zf] rfl rfl (Xk HT_.out (by kernel_rfl)) (fun _ _ _ h => h) (Or.inl ⟨by rfl, ?_⟩) ?_ ?_
     rotate_left
     ·intro w'
      go_simp
      with_reducible rfl
     rotate_left
     ·simp only [Act.put, Xa, Xb, Xc, Xh, Xi]
      rfl
     refine one_ (i := 2) (N := some 13) #[Zt,Zt,Zt,Zt,Zt,Zt,Zf,Zf,Zf,Zf,Zf,Zf,Zf,Zf,Zf,Zf,Zf,Zf,Zf,Zf,Zf,Zf,Zf,Zf,Zf,Zf,Zf,Zf,Zf,Zf,Zf,Zf,Zf,Zf,Zf,Zf] rfl rfl (one_of HT_.out (by kernel_rfl)) (by decide) (fun K hK => ?_)
     refine goes_ Try.func38 (by kernel_rfl) rfl #[.agg #[.int .i64 a0_0, .int .i64 a0_1, .int .i64 a0_2, .int .i64 a0_3]] (by rfl) rfl rfl (by (try simp only [List.map_toArray, List.map_cons, List.map_nil]); first | done | rfl | (simp only [List.length_drop, List.length_take]; rfl)) ?_
     with_reducible refine (layer_Of.calls a0_0 a0_1 a0_2 a0_3 t310 t311 t312 t313 t314 t315 t316 _ A6.out).mono ?_
     rintro e w45 ⟨rfl, hb⟩
     refine ⟨_, rfl, ?_⟩
     have n0_ := Za (Xl (g := gb299) (o := .cells #[.int .i64 a0_0, .int .i64 a0_1, .int .i64 a0_2, .int .i64 a0_3, .int .i64 a0_4, .int .i64 a0_5, .int .i64 a0_6] 55 (0, 0)) (bb_11 BK299.out) hb)
     have n1_ := Za (Xl (g := gb300) (o := .cells #[.int .i64 a1_0, .int .i64 a1_1, .int .i64 a1_2] 32 (0, 0)) (bb_11 BK300.out) hb)
     have n2_ := Za (Xl (g := gb309) (o := .cells #[.int .i64 t302, .int .i64 t303, .int .i64 t304, .int .i64 t305, .int .i64 t306, .int .i64 t307, .int .i64 t308] 55 (0, 0)) (bb_11 BK309.out) hb)
     have n3_ := Za (Xo (hb_11 HB.out) hb)
     clear BK299
     clear BK300
     clear BK309
     clear HB
     have BK299 := n0_
     have BK300 := n1_
     have BK309 := n2_
     have HB := n3_
     clear n0_ n1_ n2_ n3_
     (try clear hb)
     (try clear hb2)
     (try clear hk)
     (try clear hi)
     refine hK.out _ _ ⟨(Xd BK299.out 0).trans rfl, (Xd BK299.out 1).trans rfl, (Xd BK299.out 2).trans rfl, (Xd BK299.out 3).trans rfl, (Xd BK299.out 4).trans rfl, (Xd BK299.out 5).trans rfl, (Xd BK299.out 6).trans rfl⟩ (fun hHeld => ?_)
     clear hK K
     refine norm_ (a' := ?_) ?_ ?_
     rotate_left
     ·show Act.put _ (some 13) _ = _
      simp only [Act.put, Xa, Xb, Xc, Xh, Xi]
      rfl
     refine Xm (i := 6) (N := some 17) (v := ?_) (a' := ?_) #[Zt,Zt,Zt,Zt,Zt,Zt,Zt,Zf,Zf,Zf,Zf,Zf,Zf,Zf,Zf,Zf,Zf,Zf,Zf,Zf,Zf,Zf,Zf,Zf,Zf,Zf,Zf,Zf,Zf,Zf,Zf,Zf,Zf,Zf,Zf,Zf] rfl rfl (Xk HT_.out (by kernel_rfl)) (fun _ _ _ h => h) (Or.inl ⟨by rfl, ?_⟩) ?_ ?_
     rotate_left
     ·intro w'
      go_simp
      with_reducible rfl
     rotate_left
     ·simp only [Act.put, Xa, Xb, Xc, Xh, Xi]
      rfl
     refine Xm (i := 7) (N := some 18) (v := ?_) (a' := ?_) #[Zt,Zt,Zt,Zt,Zt,Zt,Zt,Zt,Zf,Zf,Zf,Zf,Zf,Zf,Zf,Zf,Zf,Zf,Zf,Zf,Zf,Zf,Zf,Zf,Zf,Zf,Zf,Zf,Zf,Zf,Zf,Zf,Zf,Zf,Zf,Zf] rfl rfl (Xk HT_.out (by kernel_rfl)) (fun _ _ _ h => h) (Or.inl ⟨by rfl, ?_⟩) ?_ ?_
     rotate_left
     ·intro w'
      go_simp
      with_reducible rfl
     rotate_left
     ·simp only [Act.put, Xa, Xb, Xc, Xh, Xi]
      rfl
     refine take_ (i := 8) (N := some 19) (v := ?_) (a' := ?_) #[Zt,Zt,Zt,Zt,Zt,Zt,Zt,Zt,Zt,Zf,Zf,Zf,Zf,Zf,Zf,Zf,Zf,Zf,Zf,Zf,Zf,Zf,Zf,Zf,Zf,Zf,Zf,Zf,Zf,Zf,Zf,Zf,Zf,Zf,Zf,Zf] rfl rfl (take_ofW HT_.out HW_.out (by kernel_rfl)) (fun _ _ _ h => h) (Or.inl ⟨by rfl, ?_⟩) hHeld ?_ ?_
     rotate_left
     ·rintro w' ⟨s0, s1, s2, s3, s4, s5, s6⟩
      go_simp
      with_reducible rfl
     rotate_left
     ·simp only [Act.put, Xa, Xb, Xc, Xh, Xi]
      rfl
     refine take_ (i := 10) (N := some 21) (v := ?_) (a' := ?_) #[Zt,Zt,Zt,Zt,Zt,Zt,Zt,Zt,Zt,Zf,Zt,Zf,Zf,Zf,Zf,Zf,Zf,Zf,Zf,Zf,Zf,Zf,Zf,Zf,Zf,Zf,Zf,Zf,Zf,Zf,Zf,Zf,Zf,Zf,Zf,Zf] rfl rfl (take_ofW HT_.out HW_.out (by kernel_rfl)) (fun _ _ _ h => h) (Or.inl ⟨by rfl, ?_⟩) hHeld ?_ ?_
     rotate_left
     ·rintro w' ⟨s0, s1, s2, s3, s4, s5, s6⟩
      go_simp
      with_reducible rfl
     rotate_left
     ·simp only [Act.put, Xa, Xb, Xc, Xh, Xi]
      rfl
     refine one_ (i := 9) (N := some 20) #[Zt,Zt,Zt,Zt,Zt,Zt,Zt,Zt,Zt,Zt,Zt,Zf,Zf,Zf,Zf,Zf,Zf,Zf,Zf,Zf,Zf,Zf,Zf,Zf,Zf,Zf,Zf,Zf,Zf,Zf,Zf,Zf,Zf,Zf,Zf,Zf] rfl rfl (one_of HT_.out (by kernel_rfl)) (by decide) (fun K hK => ?_)
     refine goes_ Try.func39 (by kernel_rfl) rfl #[.agg #[.int .i64 a0_0, .int .i64 a0_1, .int .i64 a0_2, .int .i64 a0_3, .int .i64 a0_4, .int .i64 a0_5, .int .i64 a0_6]] (by rfl) rfl rfl (by (try simp only [List.map_toArray, List.map_cons, List.map_nil]); first | done | rfl | (simp only [List.length_drop, List.length_take]; rfl)) ?_
     with_reducible refine (layer_Lies.calls k a0_0 a0_1 a0_2 a0_3 a0_4 a0_5 a0_6 t317 t318 t319 t320 _ A8.out).mono ?_
     rintro e w46 ⟨rfl, hb⟩
     refine ⟨_, rfl, ?_⟩
     have n0_ := Za (Xl (g := gb299) (o := .cells #[.int .i64 a0_0, .int .i64 a0_1, .int .i64 a0_2, .int .i64 a0_3, .int .i64 a0_4, .int .i64 a0_5, .int .i64 a0_6] 55 (0, 0)) (bb_11 BK299.out) hb)
     have n1_ := Za (Xl (g := gb300) (o := .cells #[.int .i64 a1_0, .int .i64 a1_1, .int .i64 a1_2] 32 (0, 0)) (bb_11 BK300.out) hb)
     have n2_ := Za (Xl (g := gb309) (o := .cells #[.int .i64 t302, .int .i64 t303, .int .i64 t304, .int .i64 t305, .int .i64 t306, .int .i64 t307, .int .i64 t308] 55 (0, 0)) (bb_11 BK309.out) hb)
     have n3_ := Za (Xo (hb_11 HB.out) hb)
     clear BK299
     clear BK300
     clear BK309
     clear HB
     have BK299 := n0_
     have BK300 := n1_
     have BK309 := n2_
     have HB := n3_
     clear n0_ n1_ n2_ n3_
     (try clear hb)
     (try clear hb2)
     (try clear hk)
     (try clear hi)
     refine hK.out _ _ ⟨(Xd BK299.out 0).trans rfl, (Xd BK299.out 1).trans rfl, (Xd BK299.out 2).trans rfl, (Xd BK299.out 3).trans rfl, (Xd BK299.out 4).trans rfl, (Xd BK299.out 5).trans rfl, (Xd BK299.out 6).trans rfl⟩ (fun hHeld => ?_)
     clear hK K
     refine norm_ (a' := ?_) ?_ ?_
     rotate_left
     ·show Act.put _ (some 20) _ = _
      simp only [Act.put, Xa, Xb, Xc, Xh, Xi]
      rfl
     refine one_ (i := 11) (N := some 22) #[Zt,Zt,Zt,Zt,Zt,Zt,Zt,Zt,Zt,Zt,Zt,Zt,Zf,Zf,Zf,Zf,Zf,Zf,Zf,Zf,Zf,Zf,Zf,Zf,Zf,Zf,Zf,Zf,Zf,Zf,Zf,Zf,Zf,Zf,Zf,Zf] rfl rfl (one_of HT_.out (by kernel_rfl)) (by decide) (fun K hK => ?_)
     refine goes_ Try.func40 (by kernel_rfl) rfl #[.agg #[.int .i64 a0_0, .int .i64 a0_1, .int .i64 a0_2, .int .i64 a0_3, .int .i64 a0_4, .int .i64 a0_5, .int .i64 a0_6]] (by rfl) rfl rfl (by (try simp only [List.map_toArray, List.map_cons, List.map_nil]); first | done | rfl | (simp only [List.length_drop, List.length_take]; rfl)) ?_
     with_reducible refine (gatherumref38_Lies.calls k a0_0 a0_1 a0_2 a0_3 a0_4 a0_5 a0_6 t321 t322 t323 t324 _ A9.out).mono ?_
     rintro e w47 ⟨rfl, hb⟩
     refine ⟨_, rfl, ?_⟩
     have n0_ := Za (Xl (g := gb299) (o := .cells #[.int .i64 a0_0, .int .i64 a0_1, .int .i64 a0_2, .int .i64 a0_3, .int .i64 a0_4, .int .i64 a0_5, .int .i64 a0_6] 55 (0, 0)) (bb_11 BK299.out) hb)
     have n1_ := Za (Xl (g := gb300) (o := .cells #[.int .i64 a1_0, .int .i64 a1_1, .int .i64 a1_2] 32 (0, 0)) (bb_11 BK300.out) hb)
     have n2_ := Za (Xl (g := gb309) (o := .cells #[.int .i64 t302, .int .i64 t303, .int .i64 t304, .int .i64 t305, .int .i64 t306, .int .i64 t307, .int .i64 t308] 55 (0, 0)) (bb_11 BK309.out) hb)
     have n3_ := Za (Xo (hb_11 HB.out) hb)
     clear BK299
     clear BK300
     clear BK309
     clear HB
     have BK299 := n0_
     have BK300 := n1_
     have BK309 := n2_
     have HB := n3_
     clear n0_ n1_ n2_ n3_
     (try clear hb)
     (try clear hb2)
     (try clear hk)
     (try clear hi)
     refine hK.out _ _ ⟨(Xd BK299.out 0).trans rfl, (Xd BK299.out 1).trans rfl, (Xd BK299.out 2).trans rfl, (Xd BK299.out 3).trans rfl, (Xd BK299.out 4).trans rfl, (Xd BK299.out 5).trans rfl, (Xd BK299.out 6).trans rfl⟩ (fun hHeld => ?_)
     clear hK K
     refine norm_ (a' := ?_) ?_ ?_
     rotate_left
     ·show Act.put _ (some 22) _ = _
      simp only [Act.put, Xa, Xb, Xc, Xh, Xi]
      rfl
     refine Xm (i := 12) (N := some 23) (v := ?_) (a' := ?_) #[Zt,Zt,Zt,Zt,Zt,Zt,Zt,Zt,Zt,Zt,Zt,Zt,Zt,Zf,Zf,Zf,Zf,Zf,Zf,Zf,Zf,Zf,Zf,Zf,Zf,Zf,Zf,Zf,Zf,Zf,Zf,Zf,Zf,Zf,Zf,Zf] rfl rfl (Xk HT_.out (by kernel_rfl)) (fun _ _ _ h => h) (Or.inl ⟨by rfl, ?_⟩) ?_ ?_
     rotate_left
     ·intro w'
      go_simp
      with_reducible rfl
     rotate_left
     ·simp only [Act.put, Xa, Xb, Xc, Xh, Xi]
      rfl
     refine Xm (i := 13) (N := some 24) (v := ?_) (a' := ?_) #[Zt,Zt,Zt,Zt,Zt,Zt,Zt,Zt,Zt,Zt,Zt,Zt,Zt,Zt,Zf,Zf,Zf,Zf,Zf,Zf,Zf,Zf,Zf,Zf,Zf,Zf,Zf,Zf,Zf,Zf,Zf,Zf,Zf,Zf,Zf,Zf] rfl rfl (Xk HT_.out (by kernel_rfl)) (fun _ _ _ h => h) (Or.inl ⟨by rfl, ?_⟩) ?_ ?_
     rotate_left
     ·intro w'
      go_simp
      with_reducible rfl
     rotate_left
     ·simp only [Act.put, Xa, Xb, Xc, Xh, Xi]
      rfl
     refine Xm (i := 14) (N := some 25) (v := ?_) (a' := ?_) #[Zt,Zt,Zt,Zt,Zt,Zt,Zt,Zt,Zt,Zt,Zt,Zt,Zt,Zt,Zt,Zf,Zf,Zf,Zf,Zf,Zf,Zf,Zf,Zf,Zf,Zf,Zf,Zf,Zf,Zf,Zf,Zf,Zf,Zf,Zf,Zf] rfl rfl (Xk HT_.out (by kernel_rfl)) (fun _ _ _ h => h) (Or.inl ⟨by rfl, ?_⟩) ?_ ?_
     rotate_left
     ·intro w'
      go_simp
      with_reducible rfl
     rotate_left
     ·simp only [Act.put, Xa, Xb, Xc, Xh, Xi]
      rfl
     refine Xm (i := 17) (N := some 28) (v := ?_) (a' := ?_) #[Zt,Zt,Zt,Zt,Zt,Zt,Zt,Zt,Zt,Zt,Zt,Zt,Zt,Zt,Zt,Zf,Zf,Zt,Zf,Zf,Zf,Zf,Zf,Zf,Zf,Zf,Zf,Zf,Zf,Zf,Zf,Zf,Zf,Zf,Zf,Zf] rfl rfl (Xk HT_.out (by kernel_rfl)) (fun _ _ _ h => h) (Or.inl ⟨by rfl, ?_⟩) ?_ ?_
     rotate_left
     ·intro w'
      go_simp
      with_reducible rfl
     rotate_left
     ·simp only [Act.put, Xa, Xb, Xc, Xh, Xi]
      rfl
     refine Xm (i := 18) (N := some 29) (v := ?_) (a' := ?_) #[Zt,Zt,Zt,Zt,Zt,Zt,Zt,Zt,Zt,Zt,Zt,Zt,Zt,Zt,Zt,Zf,Zf,Zt,Zt,Zf,Zf,Zf,Zf,Zf,Zf,Zf,Zf,Zf,Zf,Zf,Zf,Zf,Zf,Zf,Zf,Zf] rfl rfl (Xk HT_.out (by kernel_rfl)) (fun _ _ _ h => h) (Or.inl ⟨by rfl, ?_⟩) ?_ ?_
     rotate_left
     ·intro w'
      go_simp
      with_reducible rfl
     rotate_left
     ·simp only [Act.put, Xa, Xb, Xc, Xh, Xi]
      rfl
     refine take_ (i := 15) (N := some 26) (v := ?_) (a' := ?_) #[Zt,Zt,Zt,Zt,Zt,Zt,Zt,Zt,Zt,Zt,Zt,Zt,Zt,Zt,Zt,Zt,Zf,Zt,Zt,Zf,Zf,Zf,Zf,Zf,Zf,Zf,Zf,Zf,Zf,Zf,Zf,Zf,Zf,Zf,Zf,Zf] rfl rfl (take_ofW HT_.out HW_.out (by kernel_rfl)) (fun _ _ _ h => h) (Or.inl ⟨by rfl, ?_⟩) hHeld ?_ ?_
     rotate_left
     ·rintro w' ⟨s0, s1, s2, s3, s4, s5, s6⟩
      go_simp
      with_reducible rfl
     rotate_left
     ·simp only [Act.put, Xa, Xb, Xc, Xh, Xi]
      rfl
     refine take_ (i := 19) (N := some 30) (v := ?_) (a' := ?_) #[Zt,Zt,Zt,Zt,Zt,Zt,Zt,Zt,Zt,Zt,Zt,Zt,Zt,Zt,Zt,Zt,Zf,Zt,Zt,Zt,Zf,Zf,Zf,Zf,Zf,Zf,Zf,Zf,Zf,Zf,Zf,Zf,Zf,Zf,Zf,Zf] rfl rfl (take_ofW HT_.out HW_.out (by kernel_rfl)) (fun _ _ _ h => h) (Or.inl ⟨by rfl, ?_⟩) hHeld ?_ ?_
     rotate_left
     ·rintro w' ⟨s0, s1, s2, s3, s4, s5, s6⟩
      go_simp
      with_reducible rfl
     rotate_left
     ·simp only [Act.put, Xa, Xb, Xc, Xh, Xi]
      rfl
     refine Xm (i := 20) (N := some 31) (v := ?_) (a' := ?_) #[Zt,Zt,Zt,Zt,Zt,Zt,Zt,Zt,Zt,Zt,Zt,Zt,Zt,Zt,Zt,Zt,Zf,Zt,Zt,Zt,Zt,Zf,Zf,Zf,Zf,Zf,Zf,Zf,Zf,Zf,Zf,Zf,Zf,Zf,Zf,Zf] rfl rfl (Xk HT_.out (by kernel_rfl)) (fun _ _ _ h => h) (Or.inl ⟨by rfl, ?_⟩) ?_ ?_
     rotate_left
     ·intro w'
      go_simp
      with_reducible rfl
     rotate_left
     ·simp only [Act.put, Xa, Xb, Xc, Xh, Xi]
      rfl
     refine Xm (i := 21) (N := some 32) (v := ?_) (a' := ?_) #[Zt,Zt,Zt,Zt,Zt,Zt,Zt,Zt,Zt,Zt,Zt,Zt,Zt,Zt,Zt,Zt,Zf,Zt,Zt,Zt,Zt,Zt,Zf,Zf,Zf,Zf,Zf,Zf,Zf,Zf,Zf,Zf,Zf,Zf,Zf,Zf] rfl rfl (Xk HT_.out (by kernel_rfl)) (fun _ _ _ h => h) (Or.inl ⟨by rfl, ?_⟩) ?_ ?_
     rotate_left
     ·intro w'
      go_simp
      with_reducible rfl
     rotate_left
     ·simp only [Act.put, Xa, Xb, Xc, Xh, Xi]
      rfl
     refine one_ (i := 16) (N := some 27) #[Zt,Zt,Zt,Zt,Zt,Zt,Zt,Zt,Zt,Zt,Zt,Zt,Zt,Zt,Zt,Zt,Zt,Zt,Zt,Zt,Zt,Zt,Zf,Zf,Zf,Zf,Zf,Zf,Zf,Zf,Zf,Zf,Zf,Zf,Zf,Zf] rfl rfl (one_of HT_.out (by kernel_rfl)) (by decide) (fun K hK => ?_)
     refine goes_ Try.func41 (by kernel_rfl) rfl #[.agg #[.int .i64 a0_0, .int .i64 a0_1, .int .i64 a0_2, .int .i64 a0_3, .int .i64 a0_4, .int .i64 a0_5, .int .i64 a0_6]] (by rfl) rfl rfl (by (try simp only [List.map_toArray, List.map_cons, List.map_nil]); first | done | rfl | (simp only [List.length_drop, List.length_take]; rfl)) ?_
     with_reducible refine (layer_Up.calls a0_0 a0_1 a0_2 a0_3 a0_4 a0_5 a0_6 t325 _ A11.out).mono ?_
     rintro e w48 ⟨rfl, hb⟩
     refine ⟨_, rfl, ?_⟩
     have n0_ := Za (Xl (g := gb299) (o := .cells #[.int .i64 a0_0, .int .i64 a0_1, .int .i64 a0_2, .int .i64 a0_3, .int .i64 a0_4, .int .i64 a0_5, .int .i64 a0_6] 55 (0, 0)) (bb_11 BK299.out) hb)
     have n1_ := Za (Xl (g := gb300) (o := .cells #[.int .i64 a1_0, .int .i64 a1_1, .int .i64 a1_2] 32 (0, 0)) (bb_11 BK300.out) hb)
     have n2_ := Za (Xl (g := gb309) (o := .cells #[.int .i64 t302, .int .i64 t303, .int .i64 t304, .int .i64 t305, .int .i64 t306, .int .i64 t307, .int .i64 t308] 55 (0, 0)) (bb_11 BK309.out) hb)
     have n3_ := Za (Xo (hb_11 HB.out) hb)
     clear BK299
     clear BK300
     clear BK309
     clear HB
     have BK299 := n0_
     have BK300 := n1_
     have BK309 := n2_
     have HB := n3_
     clear n0_ n1_ n2_ n3_
     (try clear hb)
     (try clear hb2)
     (try clear hk)
     (try clear hi)
     refine hK.out _ _ ⟨(Xd BK299.out 0).trans rfl, (Xd BK299.out 1).trans rfl, (Xd BK299.out 2).trans rfl, (Xd BK299.out 3).trans rfl, (Xd BK299.out 4).trans rfl, (Xd BK299.out 5).trans rfl, (Xd BK299.out 6).trans rfl⟩ (fun hHeld => ?_)
     clear hK K
     refine norm_ (a' := ?_) ?_ ?_
     rotate_left
     ·show Act.put _ (some 27) _ = _
      simp only [Act.put, Xa, Xb, Xc, Xh, Xi]
      rfl
     refine Xm (i := 22) (N := some 33) (v := ?_) (a' := ?_) #[Zt,Zt,Zt,Zt,Zt,Zt,Zt,Zt,Zt,Zt,Zt,Zt,Zt,Zt,Zt,Zt,Zt,Zt,Zt,Zt,Zt,Zt,Zt,Zf,Zf,Zf,Zf,Zf,Zf,Zf,Zf,Zf,Zf,Zf,Zf,Zf] rfl rfl (Xk HT_.out (by kernel_rfl)) (fun _ _ _ h => h) (Or.inl ⟨by rfl, ?_⟩) ?_ ?_
     rotate_left
     ·intro w'
      go_simp
      with_reducible rfl
     rotate_left
     ·simp only [Act.put, Xa, Xb, Xc, Xh, Xi]
      rfl
     refine Xm (i := 23) (N := some 34) (v := ?_) (a' := ?_) #[Zt,Zt,Zt,Zt,Zt,Zt,Zt,Zt,Zt,Zt,Zt,Zt,Zt,Zt,Zt,Zt,Zt,Zt,Zt,Zt,Zt,Zt,Zt,Zt,Zf,Zf,Zf,Zf,Zf,Zf,Zf,Zf,Zf,Zf,Zf,Zf] rfl rfl (Xk HT_.out (by kernel_rfl)) (fun _ _ _ h => h) (Or.inl ⟨by rfl, ?_⟩) ?_ ?_
     rotate_left
     ·intro w'
      go_simp
      with_reducible rfl
     rotate_left
     ·simp only [Act.put, Xa, Xb, Xc, Xh, Xi]
      rfl
     refine Xm (i := 24) (N := some 35) (v := ?_) (a' := ?_) #[Zt,Zt,Zt,Zt,Zt,Zt,Zt,Zt,Zt,Zt,Zt,Zt,Zt,Zt,Zt,Zt,Zt,Zt,Zt,Zt,Zt,Zt,Zt,Zt,Zt,Zf,Zf,Zf,Zf,Zf,Zf,Zf,Zf,Zf,Zf,Zf] rfl rfl (Xk HT_.out (by kernel_rfl)) (fun _ _ _ h => h) (Or.inl ⟨by rfl, ?_⟩) ?_ ?_
     rotate_left
     ·intro w'
      go_simp
      with_reducible rfl
     rotate_left
     ·simp only [Act.put, Xa, Xb, Xc, Xh, Xi]
      rfl
     refine Xm (i := 25) (N := some 36) (v := undef) (a' := ?_) #[Zt,Zt,Zt,Zt,Zt,Zt,Zt,Zt,Zt,Zt,Zt,Zt,Zt,Zt,Zt,Zt,Zt,Zt,Zt,Zt,Zt,Zt,Zt,Zt,Zt,Zt,Zf,Zf,Zf,Zf,Zf,Zf,Zf,Zf,Zf,Zf] rfl rfl (Xk HT_.out (by kernel_rfl)) (fun _ _ _ h => h) (Or.inr ⟨by rfl, rfl⟩) ?_ ?_
     rotate_left
     ·simp only [Act.put, Xa, Xb, Xc, Xh, Xi]
      rfl
     refine Xm (i := 26) (N := some 37) (v := undef) (a' := ?_) #[Zt,Zt,Zt,Zt,Zt,Zt,Zt,Zt,Zt,Zt,Zt,Zt,Zt,Zt,Zt,Zt,Zt,Zt,Zt,Zt,Zt,Zt,Zt,Zt,Zt,Zt,Zt,Zf,Zf,Zf,Zf,Zf,Zf,Zf,Zf,Zf] rfl rfl (Xk HT_.out (by kernel_rfl)) (fun _ _ _ h => h) (Or.inr ⟨by rfl, rfl⟩) ?_ ?_
     rotate_left
     ·simp only [Act.put, Xa, Xb, Xc, Xh, Xi]
      rfl
     refine Xm (i := 27) (N := some 38) (v := undef) (a' := ?_) #[Zt,Zt,Zt,Zt,Zt,Zt,Zt,Zt,Zt,Zt,Zt,Zt,Zt,Zt,Zt,Zt,Zt,Zt,Zt,Zt,Zt,Zt,Zt,Zt,Zt,Zt,Zt,Zt,Zf,Zf,Zf,Zf,Zf,Zf,Zf,Zf] rfl rfl (Xk HT_.out (by kernel_rfl)) (fun _ _ _ h => h) (Or.inr ⟨by rfl, rfl⟩) ?_ ?_
     rotate_left
     ·simp only [Act.put, Xa, Xb, Xc, Xh, Xi]
      rfl
     refine Xm (i := 28) (N := some 39) (v := undef) (a' := ?_) #[Zt,Zt,Zt,Zt,Zt,Zt,Zt,Zt,Zt,Zt,Zt,Zt,Zt,Zt,Zt,Zt,Zt,Zt,Zt,Zt,Zt,Zt,Zt,Zt,Zt,Zt,Zt,Zt,Zt,Zf,Zf,Zf,Zf,Zf,Zf,Zf] rfl rfl (Xk HT_.out (by kernel_rfl)) (fun _ _ _ h => h) (Or.inr ⟨by rfl, rfl⟩) ?_ ?_
     rotate_left
     ·simp only [Act.put, Xa, Xb, Xc, Xh, Xi]
      rfl
     refine Xm (i := 29) (N := some 40) (v := undef) (a' := ?_) #[Zt,Zt,Zt,Zt,Zt,Zt,Zt,Zt,Zt,Zt,Zt,Zt,Zt,Zt,Zt,Zt,Zt,Zt,Zt,Zt,Zt,Zt,Zt,Zt,Zt,Zt,Zt,Zt,Zt,Zt,Zf,Zf,Zf,Zf,Zf,Zf] rfl rfl (Xk HT_.out (by kernel_rfl)) (fun _ _ _ h => h) (Or.inr ⟨by rfl, rfl⟩) ?_ ?_
     rotate_left
     ·simp only [Act.put, Xa, Xb, Xc, Xh, Xi]
      rfl
     refine Xm (i := 30) (N := some 41) (v := undef) (a' := ?_) #[Zt,Zt,Zt,Zt,Zt,Zt,Zt,Zt,Zt,Zt,Zt,Zt,Zt,Zt,Zt,Zt,Zt,Zt,Zt,Zt,Zt,Zt,Zt,Zt,Zt,Zt,Zt,Zt,Zt,Zt,Zt,Zf,Zf,Zf,Zf,Zf] rfl rfl (Xk HT_.out (by kernel_rfl)) (fun _ _ _ h => h) (Or.inr ⟨by rfl, rfl⟩) ?_ ?_
     rotate_left
     ·simp only [Act.put, Xa, Xb, Xc, Xh, Xi]
      rfl
     refine Xm (i := 31) (N := some 42) (v := undef) (a' := ?_) #[Zt,Zt,Zt,Zt,Zt,Zt,Zt,Zt,Zt,Zt,Zt,Zt,Zt,Zt,Zt,Zt,Zt,Zt,Zt,Zt,Zt,Zt,Zt,Zt,Zt,Zt,Zt,Zt,Zt,Zt,Zt,Zt,Zf,Zf,Zf,Zf] rfl rfl (Xk HT_.out (by kernel_rfl)) (fun _ _ _ h => h) (Or.inr ⟨by rfl, rfl⟩) ?_ ?_
     rotate_left
     ·simp only [Act.put, Xa, Xb, Xc, Xh, Xi]
      rfl
     refine Xm (i := 32) (N := some 43) (v := undef) (a' := ?_) #[Zt,Zt,Zt,Zt,Zt,Zt,Zt,Zt,Zt,Zt,Zt,Zt,Zt,Zt,Zt,Zt,Zt,Zt,Zt,Zt,Zt,Zt,Zt,Zt,Zt,Zt,Zt,Zt,Zt,Zt,Zt,Zt,Zt,Zf,Zf,Zf] rfl rfl (Xk HT_.out (by kernel_rfl)) (fun _ _ _ h => h) (Or.inr ⟨by rfl, rfl⟩) ?_ ?_
     rotate_left
     ·simp only [Act.put, Xa, Xb, Xc, Xh, Xi]
      rfl
     refine Xm (i := 33) (N := some 44) (v := undef) (a' := ?_) #[Zt,Zt,Zt,Zt,Zt,Zt,Zt,Zt,Zt,Zt,Zt,Zt,Zt,Zt,Zt,Zt,Zt,Zt,Zt,Zt,Zt,Zt,Zt,Zt,Zt,Zt,Zt,Zt,Zt,Zt,Zt,Zt,Zt,Zt,Zf,Zf] rfl rfl (Xk HT_.out (by kernel_rfl)) (fun _ _ _ h => h) (Or.inr ⟨by rfl, rfl⟩) ?_ ?_
     rotate_left
     ·simp only [Act.put, Xa, Xb, Xc, Xh, Xi]
      rfl
     refine Xm (i := 34) (N := some 45) (v := ?_) (a' := ?_) #[Zt,Zt,Zt,Zt,Zt,Zt,Zt,Zt,Zt,Zt,Zt,Zt,Zt,Zt,Zt,Zt,Zt,Zt,Zt,Zt,Zt,Zt,Zt,Zt,Zt,Zt,Zt,Zt,Zt,Zt,Zt,Zt,Zt,Zt,Zt,Zf] rfl rfl (Xk HT_.out (by kernel_rfl)) (fun _ _ _ h => h) (Or.inl ⟨by rfl, ?_⟩) ?_ ?_
     rotate_left
     ·intro w'
      go_simp
      with_reducible rfl
     rotate_left
     ·simp only [Act.put, Xa, Xb, Xc, Xh, Xi]
      rfl
     refine Xm (i := 35) (N := some 4) (v := ?_) (a' := ?_) #[Zt,Zt,Zt,Zt,Zt,Zt,Zt,Zt,Zt,Zt,Zt,Zt,Zt,Zt,Zt,Zt,Zt,Zt,Zt,Zt,Zt,Zt,Zt,Zt,Zt,Zt,Zt,Zt,Zt,Zt,Zt,Zt,Zt,Zt,Zt,Zt] rfl rfl (Xk HT_.out (by kernel_rfl)) (fun _ _ _ h => h) (Or.inl ⟨by rfl, ?_⟩) ?_ ?_
     rotate_left
     ·intro w'
      go_simp
      with_reducible rfl
     rotate_left
     ·simp only [Act.put, Xa, Xb, Xc, Xh, Xi]
      rfl
     refine done_ (done_of HT_.out (by kernel_rfl)) ?_
     try go_wp2
     go_ret
     exact ⟨by first | rfl | (simp [errW_none, errW_some] <;> rfl) | (simp [*, errW_none, errW_some] <;> rfl), by repeat (first | (with_reducible first | exact HB.out | apply below_alloc | apply pw_below_drewN | apply below_drew1 | refine below_set ?_ GE299.out | refine below_set ?_ GE300.out | refine below_set ?_ GE309.out) | exact HB.out)⟩
   ·rw [if_neg c10] at H
    have c10b0 : (t317 == t321 && (t318 == t322 && (t319 == t323 && (t320 == t324)))) = Zf := by simpa using c10
    (try (have c10b1 : decide (t317 = t321 && (t318 == t322 && (t319 == t323 && (t320 == t324)))) = Zf := by simpa using c10))
    (try (have c10b2 : (t317 == t321 && (t318 == t322 && (t319 == t323 && (t320 == t324)))) = Zf := by simpa using c10))
    (try (have c10b3 : ¬ (t317 = t321 && (t318 == t322 && (t319 == t323 && (t320 == t324)))) := by simpa using c10))
    clear c10
    obtain rfl := Option.some.inj H
    go_enter Try.func6, Try.ntmps6
    try go_wp2_with (first | ((with_reducible refine gate_dst (N := 2) rfl ?_); refine box_event ?hg (N := 2) ?hd (cs := #[.int .i64 a0_0, .int .i64 a0_1, .int .i64 a0_2, .int .i64 a0_3, .int .i64 a0_4, .int .i64 a0_5, .int .i64 a0_6]) (t := 55) ?hr ?_; (case hd => rfl); (case hg => rfl); (case hr => first | (go_simp; done) | (go_simp; rfl)); intro gb299 hg w49 hbox hb; have n0_ := Za (Xo (hb_11 HB.out) hb); have n1_ := Za (hbox); have n2_ := Za ((by rw [hg]; exact (Xp (hb_11 HB.out)) : w.heap.size ≤ gb299)); have n3_ := Za ((by rw [hg]; exact (Xp (hb_11 HB.out)) : w.heap.size ≤ gb299)); clear HB; have HB := n0_; have BK299 := n1_; have GW299 := n2_; have GE299 := n3_; clear n0_ n1_ n2_ n3_; clear hb hbox hg) | ((with_reducible refine gate_dst (N := 3) rfl ?_); refine box_event ?hg (N := 3) ?hd (cs := #[.int .i64 a1_0, .int .i64 a1_1, .int .i64 a1_2]) (t := 32) ?hr ?_; (case hd => rfl); (case hg => rfl); (case hr => first | (go_simp; done) | (go_simp; rfl)); intro gb300 hg w50 hbox hb; have n0_ := Za (Xl (g := gb299) (o := .cells #[.int .i64 a0_0, .int .i64 a0_1, .int .i64 a0_2, .int .i64 a0_3, .int .i64 a0_4, .int .i64 a0_5, .int .i64 a0_6] 55 (0, 0)) (bb_11 BK299.out) hb); have n1_ := Za (Xo (hb_11 HB.out) hb); have n2_ := Za (hbox); have n3_ := Za ((by rw [hg]; exact (Xp (hb_11 HB.out)) : w.heap.size ≤ gb300)); have n4_ := Za ((by rw [hg]; exact (Xp (hb_11 HB.out)) : w.heap.size ≤ gb300)); have n5_ := Za ((by rw [hg]; exact Nat.ne_of_lt (blk_lt (g := gb299) (o := .cells #[.int .i64 a0_0, .int .i64 a0_1, .int .i64 a0_2, .int .i64 a0_3, .int .i64 a0_4, .int .i64 a0_5, .int .i64 a0_6] 55 (0, 0)) (bb_11 BK299.out)) : gb299 ≠ gb300)); have n6_ := Za ((by rw [hg]; exact Nat.ne_of_gt (blk_lt (g := gb299) (o := .cells #[.int .i64 a0_0, .int .i64 a0_1, .int .i64 a0_2, .int .i64 a0_3, .int .i64 a0_4, .int .i64 a0_5, .int .i64 a0_6] 55 (0, 0)) (bb_11 BK299.out)) : gb300 ≠ gb299)); clear BK299; clear HB; have BK299 := n0_; have HB := n1_; have BK300 := n2_; have GW300 := n3_; have GE300 := n4_; have NB299_300 := n5_; have NB300_299 := n6_; clear n0_ n1_ n2_ n3_ n4_ n5_ n6_; clear hb hbox hg) | ((with_reducible refine gate_callee (f := 36) rfl ?_); refine goesL_ (some 6) rfl rfl Try.func36 (by kernel_rfl) rfl #[] rfl (by (try simp only [List.map_toArray, List.map_cons, List.map_nil]); first | done | rfl | (simp only [List.length_drop, List.length_take]; rfl)) ?_; (with_reducible refine (gatherumlaw38_alive.calls k  Zt _ A3.out).mono ?_); rintro e w51 ⟨rfl, hb⟩; refine ⟨_, rfl, ?_⟩; have n0_ := Za (Xl (g := gb299) (o := .cells #[.int .i64 a0_0, .int .i64 a0_1, .int .i64 a0_2, .int .i64 a0_3, .int .i64 a0_4, .int .i64 a0_5, .int .i64 a0_6] 55 (0, 0)) (bb_11 BK299.out) hb); have n1_ := Za (Xl (g := gb300) (o := .cells #[.int .i64 a1_0, .int .i64 a1_1, .int .i64 a1_2] 32 (0, 0)) (bb_11 BK300.out) hb); have n2_ := Za (Xo (hb_11 HB.out) hb); clear BK299; clear BK300; clear HB; have BK299 := n0_; have BK300 := n1_; have HB := n2_; clear n0_ n1_ n2_; (try clear hb); (try clear hb2); (try clear hk); (try clear hi); have hnb52 := NB299_300.out; have hnc52 := NB300_299.out; have hcz53_0 : w51.cell? ⟨gb299, 0, none⟩ = some (.int .i64 a0_0) := (Xd BK299.out 0).trans rfl; have hcz53_1 : w51.cell? ⟨gb299, 1, none⟩ = some (.int .i64 a0_1) := (Xd BK299.out 1).trans rfl; have hcz53_2 : w51.cell? ⟨gb299, 2, none⟩ = some (.int .i64 a0_2) := (Xd BK299.out 2).trans rfl; have hcz53_3 : w51.cell? ⟨gb299, 3, none⟩ = some (.int .i64 a0_3) := (Xd BK299.out 3).trans rfl; have hcz53_4 : w51.cell? ⟨gb299, 4, none⟩ = some (.int .i64 a0_4) := (Xd BK299.out 4).trans rfl; have hcz53_5 : w51.cell? ⟨gb299, 5, none⟩ = some (.int .i64 a0_5) := (Xd BK299.out 5).trans rfl; have hcz53_6 : w51.cell? ⟨gb299, 6, none⟩ = some (.int .i64 a0_6) := (Xd BK299.out 6).trans rfl; have hfz53_0 := Xj BK299.out 0; have hfz53_1 := Xj BK299.out 1; have hfz53_2 := Xj BK299.out 2; have hfz53_3 := Xj BK299.out 3; have hfz53_4 := Xj BK299.out 4; have hfz53_5 := Xj BK299.out 5; have hfz53_6 := Xj BK299.out 6; have hcz54_0 : w51.cell? ⟨gb300, 0, none⟩ = some (.int .i64 a1_0) := (Xd BK300.out 0).trans rfl; have hcz54_1 : w51.cell? ⟨gb300, 1, none⟩ = some (.int .i64 a1_1) := (Xd BK300.out 1).trans rfl; have hcz54_2 : w51.cell? ⟨gb300, 2, none⟩ = some (.int .i64 a1_2) := (Xd BK300.out 2).trans rfl; have hfz54_0 := Xj BK300.out 0; have hfz54_1 := Xj BK300.out 1; have hfz54_2 := Xj BK300.out 2) | ((with_reducible refine gate_callee (f := 37) rfl ?_); refine goesL_ (some 10) rfl rfl Try.func37 (by kernel_rfl) rfl #[.agg #[.int .i64 a0_0, .int .i64 a0_1, .int .i64 a0_2, .int .i64 a0_3, .int .i64 a0_4, .int .i64 a0_5, .int .i64 a0_6], .agg #[.int .i64 a1_0, .int .i64 a1_1, .int .i64 a1_2]] rfl (by (try simp only [List.map_toArray, List.map_cons, List.map_nil]); first | done | rfl | (simp only [List.length_drop, List.length_take]; rfl)) ?_; (with_reducible refine (layer_Lay.calls k a0_0 a0_1 a0_2 a0_3 a0_4 a0_5 a0_6 a1_0 a1_1 a1_2 t302 t303 t304 t305 t306 t307 t308 _ A5.out).mono ?_); rintro e w55 ⟨rfl, hb⟩; refine ⟨_, rfl, ?_⟩; have n0_ := Za (Xl (g := gb299) (o := .cells #[.int .i64 a0_0, .int .i64 a0_1, .int .i64 a0_2, .int .i64 a0_3, .int .i64 a0_4, .int .i64 a0_5, .int .i64 a0_6] 55 (0, 0)) (bb_11 BK299.out) hb); have n1_ := Za (Xl (g := gb300) (o := .cells #[.int .i64 a1_0, .int .i64 a1_1, .int .i64 a1_2] 32 (0, 0)) (bb_11 BK300.out) hb); have n2_ := Za (Xo (hb_11 HB.out) hb); clear BK299; clear BK300; clear HB; have BK299 := n0_; have BK300 := n1_; have HB := n2_; clear n0_ n1_ n2_; (try clear hb); (try clear hb2); (try clear hk); (try clear hi)) | ((with_reducible refine gate_dst (N := 5) rfl ?_); refine box_event ?hg (N := 5) ?hd (cs := #[.int .i64 0, .int .i64 0, .int .i64 0, .int .i64 0, .int .i64 0, .int .i64 0, .int .i64 0]) (t := 55) ?hr ?_; (case hd => rfl); (case hg => rfl); (case hr => first | (go_simp; done) | (go_simp; rfl)); intro gb309 hg w56 hbox hb; have n0_ := Za (Xl (g := gb299) (o := .cells #[.int .i64 a0_0, .int .i64 a0_1, .int .i64 a0_2, .int .i64 a0_3, .int .i64 a0_4, .int .i64 a0_5, .int .i64 a0_6] 55 (0, 0)) (bb_11 BK299.out) hb); have n1_ := Za (Xl (g := gb300) (o := .cells #[.int .i64 a1_0, .int .i64 a1_1, .int .i64 a1_2] 32 (0, 0)) (bb_11 BK300.out) hb); have n2_ := Za (Xo (hb_11 HB.out) hb); have n3_ := Za (hbox); have n4_ := Za ((by rw [hg]; exact (Xp (hb_11 HB.out)) : w.heap.size ≤ gb309)); have n5_ := Za ((by rw [hg]; exact (Xp (hb_11 HB.out)) : w.heap.size ≤ gb309)); have n6_ := Za ((by rw [hg]; exact Nat.ne_of_lt (blk_lt (g := gb299) (o := .cells #[.int .i64 a0_0, .int .i64 a0_1, .int .i64 a0_2, .int .i64 a0_3, .int .i64 a0_4, .int .i64 a0_5, .int .i64 a0_6] 55 (0, 0)) (bb_11 BK299.out)) : gb299 ≠ gb309)); have n7_ := Za ((by rw [hg]; exact Nat.ne_of_gt (blk_lt (g := gb299) (o := .cells #[.int .i64 a0_0, .int .i64 a0_1, .int .i64 a0_2, .int .i64 a0_3, .int .i64 a0_4, .int .i64 a0_5, .int .i64 a0_6] 55 (0, 0)) (bb_11 BK299.out)) : gb309 ≠ gb299)); have n8_ := Za ((by rw [hg]; exact Nat.ne_of_lt (blk_lt (g := gb300) (o := .cells #[.int .i64 a1_0, .int .i64 a1_1, .int .i64 a1_2] 32 (0, 0)) (bb_11 BK300.out)) : gb300 ≠ gb309)); have n9_ := Za ((by rw [hg]; exact Nat.ne_of_gt (blk_lt (g := gb300) (o := .cells #[.int .i64 a1_0, .int .i64 a1_1, .int .i64 a1_2] 32 (0, 0)) (bb_11 BK300.out)) : gb309 ≠ gb300)); clear BK299; clear BK300; clear HB; have BK299 := n0_; have BK300 := n1_; have HB := n2_; have BK309 := n3_; have GW309 := n4_; have GE309 := n5_; have NB299_309 := n6_; have NB309_299 := n7_; have NB300_309 := n8_; have NB309_300 := n9_; clear n0_ n1_ n2_ n3_ n4_ n5_ n6_ n7_ n8_ n9_; clear hb hbox hg; have hnb57 := NB309_299.out; have hnc57 := NB299_309.out; have hnb58 := NB309_300.out; have hnc58 := NB300_309.out; have hcz59_0 : w56.cell? ⟨gb309, 0, none⟩ = some (.int .i64 0) := (Xd BK309.out 0).trans rfl; have hcz59_1 : w56.cell? ⟨gb309, 1, none⟩ = some (.int .i64 0) := (Xd BK309.out 1).trans rfl; have hcz59_2 : w56.cell? ⟨gb309, 2, none⟩ = some (.int .i64 0) := (Xd BK309.out 2).trans rfl; have hcz59_3 : w56.cell? ⟨gb309, 3, none⟩ = some (.int .i64 0) := (Xd BK309.out 3).trans rfl; have hcz59_4 : w56.cell? ⟨gb309, 4, none⟩ = some (.int .i64 0) := (Xd BK309.out 4).trans rfl; have hcz59_5 : w56.cell? ⟨gb309, 5, none⟩ = some (.int .i64 0) := (Xd BK309.out 5).trans rfl; have hcz59_6 : w56.cell? ⟨gb309, 6, none⟩ = some (.int .i64 0) := (Xd BK309.out 6).trans rfl; have hfz59_0 := Xj BK309.out 0; have hfz59_1 := Xj BK309.out 1; have hfz59_2 := Xj BK309.out 2; have hfz59_3 := Xj BK309.out 3; have hfz59_4 := Xj BK309.out 4; have hfz59_5 := Xj BK309.out 5; have hfz59_6 := Xj BK309.out 6))
    have n0_ : Aside0 ((((((((w56.setCell ⟨gb309, 0, none⟩ (.int .i64 t302)).setCell ⟨gb309, 1, none⟩ (.int .i64 t303)).setCell ⟨gb309, 2, none⟩ (.int .i64 t304)).setCell ⟨gb309, 3, none⟩ (.int .i64 t305)).setCell ⟨gb309, 4, none⟩ (.int .i64 t306)).setCell ⟨gb309, 5, none⟩ (.int .i64 t307)).setCell ⟨gb309, 6, none⟩ (.int .i64 t308)).heap[gb299]? = some (.cells #[.int .i64 a0_0, .int .i64 a0_1, .int .i64 a0_2, .int .i64 a0_3, .int .i64 a0_4, .int .i64 a0_5, .int .i64 a0_6] 55 (0, 0))) := ⟨by (with_reducible repeat (first | refine Xe ?_ _ | refine Xf ?_ | refine Xg ?_ _)); refine Xn ?_ NB299_309.out _; (with_reducible repeat (first | refine Xe ?_ _ | refine Xf ?_ | refine Xg ?_ _)); refine Xn ?_ NB299_309.out _; (with_reducible repeat (first | refine Xe ?_ _ | refine Xf ?_ | refine Xg ?_ _)); refine Xn ?_ NB299_309.out _; (with_reducible repeat (first | refine Xe ?_ _ | refine Xf ?_ | refine Xg ?_ _)); refine Xn ?_ NB299_309.out _; (with_reducible repeat (first | refine Xe ?_ _ | refine Xf ?_ | refine Xg ?_ _)); refine Xn ?_ NB299_309.out _; (with_reducible repeat (first | refine Xe ?_ _ | refine Xf ?_ | refine Xg ?_ _)); refine Xn ?_ NB299_309.out _; (with_reducible repeat (first | refine Xe ?_ _ | refine Xf ?_ | refine Xg ?_ _)); refine Xn ?_ NB299_309.out _; (with_reducible repeat (first | refine Xe ?_ _ | refine Xf ?_ | refine Xg ?_ _)); exact BK299.out⟩
    have n1_ : Aside0 ((((((((w56.setCell ⟨gb309, 0, none⟩ (.int .i64 t302)).setCell ⟨gb309, 1, none⟩ (.int .i64 t303)).setCell ⟨gb309, 2, none⟩ (.int .i64 t304)).setCell ⟨gb309, 3, none⟩ (.int .i64 t305)).setCell ⟨gb309, 4, none⟩ (.int .i64 t306)).setCell ⟨gb309, 5, none⟩ (.int .i64 t307)).setCell ⟨gb309, 6, none⟩ (.int .i64 t308)).heap[gb300]? = some (.cells #[.int .i64 a1_0, .int .i64 a1_1, .int .i64 a1_2] 32 (0, 0))) := ⟨by (with_reducible repeat (first | refine Xe ?_ _ | refine Xf ?_ | refine Xg ?_ _)); refine Xn ?_ NB300_309.out _; (with_reducible repeat (first | refine Xe ?_ _ | refine Xf ?_ | refine Xg ?_ _)); refine Xn ?_ NB300_309.out _; (with_reducible repeat (first | refine Xe ?_ _ | refine Xf ?_ | refine Xg ?_ _)); refine Xn ?_ NB300_309.out _; (with_reducible repeat (first | refine Xe ?_ _ | refine Xf ?_ | refine Xg ?_ _)); refine Xn ?_ NB300_309.out _; (with_reducible repeat (first | refine Xe ?_ _ | refine Xf ?_ | refine Xg ?_ _)); refine Xn ?_ NB300_309.out _; (with_reducible repeat (first | refine Xe ?_ _ | refine Xf ?_ | refine Xg ?_ _)); refine Xn ?_ NB300_309.out _; (with_reducible repeat (first | refine Xe ?_ _ | refine Xf ?_ | refine Xg ?_ _)); refine Xn ?_ NB300_309.out _; (with_reducible repeat (first | refine Xe ?_ _ | refine Xf ?_ | refine Xg ?_ _)); exact BK300.out⟩
    have n2_ : Aside0 ((((((((w56.setCell ⟨gb309, 0, none⟩ (.int .i64 t302)).setCell ⟨gb309, 1, none⟩ (.int .i64 t303)).setCell ⟨gb309, 2, none⟩ (.int .i64 t304)).setCell ⟨gb309, 3, none⟩ (.int .i64 t305)).setCell ⟨gb309, 4, none⟩ (.int .i64 t306)).setCell ⟨gb309, 5, none⟩ (.int .i64 t307)).setCell ⟨gb309, 6, none⟩ (.int .i64 t308)).heap[gb309]? = some (.cells #[.int .i64 t302, .int .i64 t303, .int .i64 t304, .int .i64 t305, .int .i64 t306, .int .i64 t307, .int .i64 t308] 55 (0, 0))) := ⟨by (with_reducible repeat (first | refine Xe ?_ _ | refine Xf ?_ | refine Xg ?_ _)); refine blk_put (cs := #[.int .i64 t302, .int .i64 t303, .int .i64 t304, .int .i64 t305, .int .i64 t306, .int .i64 t307, .int .i64 0]) ?_ 6 _ rfl; (with_reducible repeat (first | refine Xe ?_ _ | refine Xf ?_ | refine Xg ?_ _)); refine blk_put (cs := #[.int .i64 t302, .int .i64 t303, .int .i64 t304, .int .i64 t305, .int .i64 t306, .int .i64 0, .int .i64 0]) ?_ 5 _ rfl; (with_reducible repeat (first | refine Xe ?_ _ | refine Xf ?_ | refine Xg ?_ _)); refine blk_put (cs := #[.int .i64 t302, .int .i64 t303, .int .i64 t304, .int .i64 t305, .int .i64 0, .int .i64 0, .int .i64 0]) ?_ 4 _ rfl; (with_reducible repeat (first | refine Xe ?_ _ | refine Xf ?_ | refine Xg ?_ _)); refine blk_put (cs := #[.int .i64 t302, .int .i64 t303, .int .i64 t304, .int .i64 0, .int .i64 0, .int .i64 0, .int .i64 0]) ?_ 3 _ rfl; (with_reducible repeat (first | refine Xe ?_ _ | refine Xf ?_ | refine Xg ?_ _)); refine blk_put (cs := #[.int .i64 t302, .int .i64 t303, .int .i64 0, .int .i64 0, .int .i64 0, .int .i64 0, .int .i64 0]) ?_ 2 _ rfl; (with_reducible repeat (first | refine Xe ?_ _ | refine Xf ?_ | refine Xg ?_ _)); refine blk_put (cs := #[.int .i64 t302, .int .i64 0, .int .i64 0, .int .i64 0, .int .i64 0, .int .i64 0, .int .i64 0]) ?_ 1 _ rfl; (with_reducible repeat (first | refine Xe ?_ _ | refine Xf ?_ | refine Xg ?_ _)); refine blk_put (cs := #[.int .i64 0, .int .i64 0, .int .i64 0, .int .i64 0, .int .i64 0, .int .i64 0, .int .i64 0]) ?_ 0 _ rfl; (with_reducible repeat (first | refine Xe ?_ _ | refine Xf ?_ | refine Xg ?_ _)); exact BK309.out⟩
    have n3_ : Aside0 (Below w.heap.size w (((((((w56.setCell ⟨gb309, 0, none⟩ (.int .i64 t302)).setCell ⟨gb309, 1, none⟩ (.int .i64 t303)).setCell ⟨gb309, 2, none⟩ (.int .i64 t304)).setCell ⟨gb309, 3, none⟩ (.int .i64 t305)).setCell ⟨gb309, 4, none⟩ (.int .i64 t306)).setCell ⟨gb309, 5, none⟩ (.int .i64 t307)).setCell ⟨gb309, 6, none⟩ (.int .i64 t308))) := ⟨by repeat (first | (with_reducible first | exact HB.out | apply below_alloc | apply pw_below_drewN | apply below_drew1 | refine below_set ?_ GE299.out | refine below_set ?_ GE300.out | refine below_set ?_ GE309.out) | exact HB.out)⟩
    (try clear BK299)
    (try clear BK300)
    (try clear BK309)
    (try clear HB)
    generalize (((((((w56.setCell ⟨gb309, 0, none⟩ (.int .i64 t302)).setCell ⟨gb309, 1, none⟩ (.int .i64 t303)).setCell ⟨gb309, 2, none⟩ (.int .i64 t304)).setCell ⟨gb309, 3, none⟩ (.int .i64 t305)).setCell ⟨gb309, 4, none⟩ (.int .i64 t306)).setCell ⟨gb309, 5, none⟩ (.int .i64 t307)).setCell ⟨gb309, 6, none⟩ (.int .i64 t308)) = w60 at n0_ n1_ n2_ n3_ ⊢
    have BK299 := n0_
    have BK300 := n1_
    have BK309 := n2_
    have HB := n3_
    clear n0_ n1_ n2_ n3_
    have n0_ := Za (Xf BK299.out)
    have n1_ := Za (Xf BK300.out)
    have n2_ := Za (Xf BK309.out)
    have n3_ := Za (below_drew1 HB.out)
    clear BK299
    clear BK300
    clear BK309
    clear HB
    have BK299 := n0_
    have BK300 := n1_
    have BK309 := n2_
    have HB := n3_
    clear n0_ n1_ n2_ n3_
    refine start_ (n := 36) (S := fun w' => w'.cell? ⟨gb299, 0, none⟩ = some (.int .i64 a0_0) ∧ w'.cell? ⟨gb299, 1, none⟩ = some (.int .i64 a0_1) ∧ w'.cell? ⟨gb299, 2, none⟩ = some (.int .i64 a0_2) ∧ w'.cell? ⟨gb299, 3, none⟩ = some (.int .i64 a0_3) ∧ w'.cell? ⟨gb299, 4, none⟩ = some (.int .i64 a0_4) ∧ w'.cell? ⟨gb299, 5, none⟩ = some (.int .i64 a0_5) ∧ w'.cell? ⟨gb299, 6, none⟩ = some (.int .i64 a0_6)) (ds := []) #[Zf,Zf,Zf,Zf,Zf,Zf,Zf,Zf,Zf,Zf,Zf,Zf,Zf,Zf,Zf,Zf,Zf,Zf,Zf,Zf,Zf,Zf,Zf,Zf,Zf,Zf,Zf,Zf,Zf,Zf,Zf,Zf,Zf,Zf,Zf,Zf] (by kernel_rfl) rfl rfl ⟨(Xd BK299.out 0).trans rfl, (Xd BK299.out 1).trans rfl, (Xd BK299.out 2).trans rfl, (Xd BK299.out 3).trans rfl, (Xd BK299.out 4).trans rfl, (Xd BK299.out 5).trans rfl, (Xd BK299.out 6).trans rfl⟩ (fun hHeld => ?_); refine with_tabW gatherumlaw38_LayerLies.tab4 gatherumlaw38_LayerLies.bits4 (fun HT_ HW_ => ?_)
    generalize w60.drew = w61 at BK299 BK300 BK309 HB hHeld ⊢
    refine Xm (i := 0) (N := some 11) (v := ?_) (a' := ?_) #[Zt,Zf,Zf,Zf,Zf,Zf,Zf,Zf,Zf,Zf,Zf,Zf,Zf,Zf,Zf,Zf,Zf,Zf,Zf,Zf,Zf,Zf,Zf,Zf,Zf,Zf,Zf,Zf,Zf,Zf,Zf,Zf,Zf,Zf,Zf,Zf] rfl rfl (Xk HT_.out (by kernel_rfl)) (fun _ _ _ h => h) (Or.inl ⟨by rfl, ?_⟩) ?_ ?_
    rotate_left
    ·intro w'
     go_simp
     with_reducible rfl
    rotate_left
    ·simp only [Act.put, Xa, Xb, Xc, Xh, Xi]
     rfl
    refine Xm (i := 3) (N := some 14) (v := ?_) (a' := ?_) #[Zt,Zf,Zf,Zt,Zf,Zf,Zf,Zf,Zf,Zf,Zf,Zf,Zf,Zf,Zf,Zf,Zf,Zf,Zf,Zf,Zf,Zf,Zf,Zf,Zf,Zf,Zf,Zf,Zf,Zf,Zf,Zf,Zf,Zf,Zf,Zf] rfl rfl (Xk HT_.out (by kernel_rfl)) (fun _ _ _ h => h) (Or.inl ⟨by rfl, ?_⟩) ?_ ?_
    rotate_left
    ·intro w'
     go_simp
     with_reducible rfl
    rotate_left
    ·simp only [Act.put, Xa, Xb, Xc, Xh, Xi]
     rfl
    refine take_ (i := 1) (N := some 12) (v := ?_) (a' := ?_) #[Zt,Zt,Zf,Zt,Zf,Zf,Zf,Zf,Zf,Zf,Zf,Zf,Zf,Zf,Zf,Zf,Zf,Zf,Zf,Zf,Zf,Zf,Zf,Zf,Zf,Zf,Zf,Zf,Zf,Zf,Zf,Zf,Zf,Zf,Zf,Zf] rfl rfl (take_ofW HT_.out HW_.out (by kernel_rfl)) (fun _ _ _ h => h) (Or.inl ⟨by rfl, ?_⟩) hHeld ?_ ?_
    rotate_left
    ·rintro w' ⟨s0, s1, s2, s3, s4, s5, s6⟩
     go_simp
     with_reducible rfl
    rotate_left
    ·simp only [Act.put, Xa, Xb, Xc, Xh, Xi]
     rfl
    refine take_ (i := 4) (N := some 15) (v := ?_) (a' := ?_) #[Zt,Zt,Zf,Zt,Zt,Zf,Zf,Zf,Zf,Zf,Zf,Zf,Zf,Zf,Zf,Zf,Zf,Zf,Zf,Zf,Zf,Zf,Zf,Zf,Zf,Zf,Zf,Zf,Zf,Zf,Zf,Zf,Zf,Zf,Zf,Zf] rfl rfl (take_ofW HT_.out HW_.out (by kernel_rfl)) (fun _ _ _ h => h) (Or.inl ⟨by rfl, ?_⟩) hHeld ?_ ?_
    rotate_left
    ·rintro w' ⟨s0, s1, s2, s3, s4, s5, s6⟩
     go_simp
     with_reducible rfl
    rotate_left
    ·simp only [Act.put, Xa, Xb, Xc, Xh, Xi]
     rfl
    refine Xm (i := 5) (N := some 16) (v := ?_) (a' := ?_) #[Zt,Zt,Zf,Zt,Zt,Zt,Zf,Zf,Zf,Zf,Zf,Zf,Zf,Zf,Zf,Zf,Zf,Zf,Zf,Zf,Zf,Zf,Zf,Zf,Zf,Zf,Zf,Zf,Zf,Zf,Zf,Zf,Zf,Zf,Zf,Zf] rfl rfl (Xk HT_.out (by kernel_rfl)) (fun _ _ _ h => h) (Or.inl ⟨by rfl, ?_⟩) ?_ ?_
    rotate_left
    ·intro w'
     go_simp
     with_reducible rfl
    rotate_left
    ·simp only [Act.put, Xa, Xb, Xc, Xh, Xi]
     rfl
    refine one_ (i := 2) (N := some 13) #[Zt,Zt,Zt,Zt,Zt,Zt,Zf,Zf,Zf,Zf,Zf,Zf,Zf,Zf,Zf,Zf,Zf,Zf,Zf,Zf,Zf,Zf,Zf,Zf,Zf,Zf,Zf,Zf,Zf,Zf,Zf,Zf,Zf,Zf,Zf,Zf] rfl rfl (one_of HT_.out (by kernel_rfl)) (by decide) (fun K hK => ?_)
    refine goes_ Try.func38 (by kernel_rfl) rfl #[.agg #[.int .i64 a0_0, .int .i64 a0_1, .int .i64 a0_2, .int .i64 a0_3]] (by rfl) rfl rfl (by (try simp only [List.map_toArray, List.map_cons, List.map_nil]); first | done | rfl | (simp only [List.length_drop, List.length_take]; rfl)) ?_
    with_reducible refine (layer_Of.calls a0_0 a0_1 a0_2 a0_3 t310 t311 t312 t313 t314 t315 t316 _ A6.out).mono ?_
    rintro e w62 ⟨rfl, hb⟩
    refine ⟨_, rfl, ?_⟩
    have n0_ := Za (Xl (g := gb299) (o := .cells #[.int .i64 a0_0, .int .i64 a0_1, .int .i64 a0_2, .int .i64 a0_3, .int .i64 a0_4, .int .i64 a0_5, .int .i64 a0_6] 55 (0, 0)) (bb_11 BK299.out) hb)
    have n1_ := Za (Xl (g := gb300) (o := .cells #[.int .i64 a1_0, .int .i64 a1_1, .int .i64 a1_2] 32 (0, 0)) (bb_11 BK300.out) hb)
    have n2_ := Za (Xl (g := gb309) (o := .cells #[.int .i64 t302, .int .i64 t303, .int .i64 t304, .int .i64 t305, .int .i64 t306, .int .i64 t307, .int .i64 t308] 55 (0, 0)) (bb_11 BK309.out) hb)
    have n3_ := Za (Xo (hb_11 HB.out) hb)
    clear BK299
    clear BK300
    clear BK309
    clear HB
    have BK299 := n0_
    have BK300 := n1_
    have BK309 := n2_
    have HB := n3_
    clear n0_ n1_ n2_ n3_
    (try clear hb)
    (try clear hb2)
    (try clear hk)
    (try clear hi)
    refine hK.out _ _ ⟨(Xd BK299.out 0).trans rfl, (Xd BK299.out 1).trans rfl, (Xd BK299.out 2).trans rfl, (Xd BK299.out 3).trans rfl, (Xd BK299.out 4).trans rfl, (Xd BK299.out 5).trans rfl, (Xd BK299.out 6).trans rfl⟩ (fun hHeld => ?_)
    clear hK K
    refine norm_ (a' := ?_) ?_ ?_
    rotate_left
    ·show Act.put _ (some 13) _ = _
     simp only [Act.put, Xa, Xb, Xc, Xh, Xi]
     rfl
    refine Xm (i := 6) (N := some 17) (v := ?_) (a' := ?_) #[Zt,Zt,Zt,Zt,Zt,Zt,Zt,Zf,Zf,Zf,Zf,Zf,Zf,Zf,Zf,Zf,Zf,Zf,Zf,Zf,Zf,Zf,Zf,Zf,Zf,Zf,Zf,Zf,Zf,Zf,Zf,Zf,Zf,Zf,Zf,Zf] rfl rfl (Xk HT_.out (by kernel_rfl)) (fun _ _ _ h => h) (Or.inl ⟨by rfl, ?_⟩) ?_ ?_
    rotate_left
    ·intro w'
     go_simp
     with_reducible rfl
    rotate_left
    ·simp only [Act.put, Xa, Xb, Xc, Xh, Xi]
     rfl
    refine Xm (i := 7) (N := some 18) (v := ?_) (a' := ?_) #[Zt,Zt,Zt,Zt,Zt,Zt,Zt,Zt,Zf,Zf,Zf,Zf,Zf,Zf,Zf,Zf,Zf,Zf,Zf,Zf,Zf,Zf,Zf,Zf,Zf,Zf,Zf,Zf,Zf,Zf,Zf,Zf,Zf,Zf,Zf,Zf] rfl rfl (Xk HT_.out (by kernel_rfl)) (fun _ _ _ h => h) (Or.inl ⟨by rfl, ?_⟩) ?_ ?_
    rotate_left
    ·intro w'
     go_simp
     with_reducible rfl
    rotate_left
    ·simp only [Act.put, Xa, Xb, Xc, Xh, Xi]
     rfl
    refine take_ (i := 8) (N := some 19) (v := ?_) (a' := ?_) #[Zt,Zt,Zt,Zt,Zt,Zt,Zt,Zt,Zt,Zf,Zf,Zf,Zf,Zf,Zf,Zf,Zf,Zf,Zf,Zf,Zf,Zf,Zf,Zf,Zf,Zf,Zf,Zf,Zf,Zf,Zf,Zf,Zf,Zf,Zf,Zf] rfl rfl (take_ofW HT_.out HW_.out (by kernel_rfl)) (fun _ _ _ h => h) (Or.inl ⟨by rfl, ?_⟩) hHeld ?_ ?_
    rotate_left
    ·rintro w' ⟨s0, s1, s2, s3, s4, s5, s6⟩
     go_simp
     with_reducible rfl
    rotate_left
    ·simp only [Act.put, Xa, Xb, Xc, Xh, Xi]
     rfl
    refine take_ (i := 10) (N := some 21) (v := ?_) (a' := ?_) #[Zt,Zt,Zt,Zt,Zt,Zt,Zt,Zt,Zt,Zf,Zt,Zf,Zf,Zf,Zf,Zf,Zf,Zf,Zf,Zf,Zf,Zf,Zf,Zf,Zf,Zf,Zf,Zf,Zf,Zf,Zf,Zf,Zf,Zf,Zf,Zf] rfl rfl (take_ofW HT_.out HW_.out (by kernel_rfl)) (fun _ _ _ h => h) (Or.inl ⟨by rfl, ?_⟩) hHeld ?_ ?_
    rotate_left
    ·rintro w' ⟨s0, s1, s2, s3, s4, s5, s6⟩
     go_simp
     with_reducible rfl
    rotate_left
    ·simp only [Act.put, Xa, Xb, Xc, Xh, Xi]
     rfl
    refine one_ (i := 9) (N := some 20) #[Zt,Zt,Zt,Zt,Zt,Zt,Zt,Zt,Zt,Zt,Zt,Zf,Zf,Zf,Zf,Zf,Zf,Zf,Zf,Zf,Zf,Zf,Zf,Zf,Zf,Zf,Zf,Zf,Zf,Zf,Zf,Zf,Zf,Zf,Zf,Zf] rfl rfl (one_of HT_.out (by kernel_rfl)) (by decide) (fun K hK => ?_)
    refine goes_ Try.func39 (by kernel_rfl) rfl #[.agg #[.int .i64 a0_0, .int .i64 a0_1, .int .i64 a0_2, .int .i64 a0_3, .int .i64 a0_4, .int .i64 a0_5, .int .i64 a0_6]] (by rfl) rfl rfl (by (try simp only [List.map_toArray, List.map_cons, List.map_nil]); first | done | rfl | (simp only [List.length_drop, List.length_take]; rfl)) ?_
    with_reducible refine (layer_Lies.calls k a0_0 a0_1 a0_2 a0_3 a0_4 a0_5 a0_6 t317 t318 t319 t320 _ A8.out).mono ?_
    rintro e w63 ⟨rfl, hb⟩
    refine ⟨_, rfl, ?_⟩
    have n0_ := Za (Xl (g := gb299) (o := .cells #[.int .i64 a0_0, .int .i64 a0_1, .int .i64 a0_2, .int .i64 a0_3, .int .i64 a0_4, .int .i64 a0_5, .int .i64 a0_6] 55 (0, 0)) (bb_11 BK299.out) hb)
    have n1_ := Za (Xl (g := gb300) (o := .cells #[.int .i64 a1_0, .int .i64 a1_1, .int .i64 a1_2] 32 (0, 0)) (bb_11 BK300.out) hb)
    have n2_ := Za (Xl (g := gb309) (o := .cells #[.int .i64 t302, .int .i64 t303, .int .i64 t304, .int .i64 t305, .int .i64 t306, .int .i64 t307, .int .i64 t308] 55 (0, 0)) (bb_11 BK309.out) hb)
    have n3_ := Za (Xo (hb_11 HB.out) hb)
    clear BK299
    clear BK300
    clear BK309
    clear HB
    have BK299 := n0_
    have BK300 := n1_
    have BK309 := n2_
    have HB := n3_
    clear n0_ n1_ n2_ n3_
    (try clear hb)
    (try clear hb2)
    (try clear hk)
    (try clear hi)
    refine hK.out _ _ ⟨(Xd BK299.out 0).trans rfl, (Xd BK299.out 1).trans rfl, (Xd BK299.out 2).trans rfl, (Xd BK299.out 3).trans rfl, (Xd BK299.out 4).trans rfl, (Xd BK299.out 5).trans rfl, (Xd BK299.out 6).trans rfl⟩ (fun hHeld => ?_)
    clear hK K
    refine norm_ (a' := ?_) ?_ ?_
    rotate_left
    ·show Act.put _ (some 20) _ = _
     simp only [Act.put, Xa, Xb, Xc, Xh, Xi]
     rfl
    refine one_ (i := 11) (N := some 22) #[Zt,Zt,Zt,Zt,Zt,Zt,Zt,Zt,Zt,Zt,Zt,Zt,Zf,Zf,Zf,Zf,Zf,Zf,Zf,Zf,Zf,Zf,Zf,Zf,Zf,Zf,Zf,Zf,Zf,Zf,Zf,Zf,Zf,Zf,Zf,Zf] rfl rfl (one_of HT_.out (by kernel_rfl)) (by decide) (fun K hK => ?_)
    refine goes_ Try.func40 (by kernel_rfl) rfl #[.agg #[.int .i64 a0_0, .int .i64 a0_1, .int .i64 a0_2, .int .i64 a0_3, .int .i64 a0_4, .int .i64 a0_5, .int .i64 a0_6]] (by rfl) rfl rfl (by (try simp only [List.map_toArray, List.map_cons, List.map_nil]); first | done | rfl | (simp only [List.length_drop, List.length_take]; rfl)) ?_
    with_reducible refine (gatherumref38_Lies.calls k a0_0 a0_1 a0_2 a0_3 a0_4 a0_5 a0_6 t321 t322 t323 t324 _ A9.out).mono ?_
    rintro e w64 ⟨rfl, hb⟩
    refine ⟨_, rfl, ?_⟩
    have n0_ := Za (Xl (g := gb299) (o := .cells #[.int .i64 a0_0, .int .i64 a0_1, .int .i64 a0_2, .int .i64 a0_3, .int .i64 a0_4, .int .i64 a0_5, .int .i64 a0_6] 55 (0, 0)) (bb_11 BK299.out) hb)
    have n1_ := Za (Xl (g := gb300) (o := .cells #[.int .i64 a1_0, .int .i64 a1_1, .int .i64 a1_2] 32 (0, 0)) (bb_11 BK300.out) hb)
    have n2_ := Za (Xl (g := gb309) (o := .cells #[.int .i64 t302, .int .i64 t303, .int .i64 t304, .int .i64 t305, .int .i64 t306, .int .i64 t307, .int .i64 t308] 55 (0, 0)) (bb_11 BK309.out) hb)
    have n3_ := Za (Xo (hb_11 HB.out) hb)
    clear BK299
    clear BK300
    clear BK309
    clear HB
    have BK299 := n0_
    have BK300 := n1_
    have BK309 := n2_
    have HB := n3_
    clear n0_ n1_ n2_ n3_
    (try clear hb)
    (try clear hb2)
    (try clear hk)
    (try clear hi)
    refine hK.out _ _ ⟨(Xd BK299.out 0).trans rfl, (Xd BK299.out 1).trans rfl, (Xd BK299.out 2).trans rfl, (Xd BK299.out 3).trans rfl, (Xd BK299.out 4).trans rfl, (Xd BK299.out 5).trans rfl, (Xd BK299.out 6).trans rfl⟩ (fun hHeld => ?_)
    clear hK K
    refine norm_ (a' := ?_) ?_ ?_
    rotate_left
    ·show Act.put _ (some 22) _ = _
     simp only [Act.put, Xa, Xb, Xc, Xh, Xi]
     rfl
    refine Xm (i := 12) (N := some 23) (v := ?_) (a' := ?_) #[Zt,Zt,Zt,Zt,Zt,Zt,Zt,Zt,Zt,Zt,Zt,Zt,Zt,Zf,Zf,Zf,Zf,Zf,Zf,Zf,Zf,Zf,Zf,Zf,Zf,Zf,Zf,Zf,Zf,Zf,Zf,Zf,Zf,Zf,Zf,Zf] rfl rfl (Xk HT_.out (by kernel_rfl)) (fun _ _ _ h => h) (Or.inl ⟨by rfl, ?_⟩) ?_ ?_
    rotate_left
    ·intro w'
     go_simp
     with_reducible rfl
    rotate_left
    ·simp only [Act.put, Xa, Xb, Xc, Xh, Xi]
     rfl
    refine Xm (i := 13) (N := some 24) (v := ?_) (a' := ?_) #[Zt,Zt,Zt,Zt,Zt,Zt,Zt,Zt,Zt,Zt,Zt,Zt,Zt,Zt,Zf,Zf,Zf,Zf,Zf,Zf,Zf,Zf,Zf,Zf,Zf,Zf,Zf,Zf,Zf,Zf,Zf,Zf,Zf,Zf,Zf,Zf] rfl rfl (Xk HT_.out (by kernel_rfl)) (fun _ _ _ h => h) (Or.inl ⟨by rfl, ?_⟩) ?_ ?_
    rotate_left
    ·intro w'
     go_simp
     with_reducible rfl
    rotate_left
    ·simp only [Act.put, Xa, Xb, Xc, Xh, Xi]
     rfl
    refine Xm (i := 14) (N := some 25) (v := ?_) (a' := ?_) #[Zt,Zt,Zt,Zt,Zt,Zt,Zt,Zt,Zt,Zt,Zt,Zt,Zt,Zt,Zt,Zf,Zf,Zf,Zf,Zf,Zf,Zf,Zf,Zf,Zf,Zf,Zf,Zf,Zf,Zf,Zf,Zf,Zf,Zf,Zf,Zf] rfl rfl (Xk HT_.out (by kernel_rfl)) (fun _ _ _ h => h) (Or.inl ⟨by rfl, ?_⟩) ?_ ?_
    rotate_left
    ·intro w'
     go_simp
     with_reducible rfl
    rotate_left
    ·simp only [Act.put, Xa, Xb, Xc, Xh, Xi]
     rfl
    refine Xm (i := 15) (N := some 26) (v := undef) (a' := ?_) #[Zt,Zt,Zt,Zt,Zt,Zt,Zt,Zt,Zt,Zt,Zt,Zt,Zt,Zt,Zt,Zt,Zf,Zf,Zf,Zf,Zf,Zf,Zf,Zf,Zf,Zf,Zf,Zf,Zf,Zf,Zf,Zf,Zf,Zf,Zf,Zf] rfl rfl (Xk HT_.out (by kernel_rfl)) (fun _ _ _ h => h) (Or.inr ⟨by rfl, rfl⟩) ?_ ?_
    rotate_left
    ·simp only [Act.put, Xa, Xb, Xc, Xh, Xi]
     rfl
    refine Xm (i := 16) (N := some 27) (v := undef) (a' := ?_) #[Zt,Zt,Zt,Zt,Zt,Zt,Zt,Zt,Zt,Zt,Zt,Zt,Zt,Zt,Zt,Zt,Zt,Zf,Zf,Zf,Zf,Zf,Zf,Zf,Zf,Zf,Zf,Zf,Zf,Zf,Zf,Zf,Zf,Zf,Zf,Zf] rfl rfl (Xk HT_.out (by kernel_rfl)) (fun _ _ _ h => h) (Or.inr ⟨by rfl, rfl⟩) ?_ ?_
    rotate_left
    ·simp only [Act.put, Xa, Xb, Xc, Xh, Xi]
     rfl
    refine Xm (i := 17) (N := some 28) (v := undef) (a' := ?_) #[Zt,Zt,Zt,Zt,Zt,Zt,Zt,Zt,Zt,Zt,Zt,Zt,Zt,Zt,Zt,Zt,Zt,Zt,Zf,Zf,Zf,Zf,Zf,Zf,Zf,Zf,Zf,Zf,Zf,Zf,Zf,Zf,Zf,Zf,Zf,Zf] rfl rfl (Xk HT_.out (by kernel_rfl)) (fun _ _ _ h => h) (Or.inr ⟨by rfl, rfl⟩) ?_ ?_
    rotate_left
    ·simp only [Act.put, Xa, Xb, Xc, Xh, Xi]
     rfl
    refine Xm (i := 18) (N := some 29) (v := undef) (a' := ?_) #[Zt,Zt,Zt,Zt,Zt,Zt,Zt,Zt,Zt,Zt,Zt,Zt,Zt,Zt,Zt,Zt,Zt,Zt,Zt,Zf,Zf,Zf,Zf,Zf,Zf,Zf,Zf,Zf,Zf,Zf,Zf,Zf,Zf,Zf,Zf,Zf] rfl rfl (Xk HT_.out (by kernel_rfl)) (fun _ _ _ h => h) (Or.inr ⟨by rfl, rfl⟩) ?_ ?_
    rotate_left
    ·simp only [Act.put, Xa, Xb, Xc, Xh, Xi]
     rfl
    refine Xm (i := 19) (N := some 30) (v := undef) (a' := ?_) #[Zt,Zt,Zt,Zt,Zt,Zt,Zt,Zt,Zt,Zt,Zt,Zt,Zt,Zt,Zt,Zt,Zt,Zt,Zt,Zt,Zf,Zf,Zf,Zf,Zf,Zf,Zf,Zf,Zf,Zf,Zf,Zf,Zf,Zf,Zf,Zf] rfl rfl (Xk HT_.out (by kernel_rfl)) (fun _ _ _ h => h) (Or.inr ⟨by rfl, rfl⟩) ?_ ?_
    rotate_left
    ·simp only [Act.put, Xa, Xb, Xc, Xh, Xi]
     rfl
    refine Xm (i := 20) (N := some 31) (v := undef) (a' := ?_) #[Zt,Zt,Zt,Zt,Zt,Zt,Zt,Zt,Zt,Zt,Zt,Zt,Zt,Zt,Zt,Zt,Zt,Zt,Zt,Zt,Zt,Zf,Zf,Zf,Zf,Zf,Zf,Zf,Zf,Zf,Zf,Zf,Zf,Zf,Zf,Zf] rfl rfl (Xk HT_.out (by kernel_rfl)) (fun _ _ _ h => h) (Or.inr ⟨by rfl, rfl⟩) ?_ ?_
    rotate_left
    ·simp only [Act.put, Xa, Xb, Xc, Xh, Xi]
     rfl
    refine Xm (i := 21) (N := some 32) (v := undef) (a' := ?_) #[Zt,Zt,Zt,Zt,Zt,Zt,Zt,Zt,Zt,Zt,Zt,Zt,Zt,Zt,Zt,Zt,Zt,Zt,Zt,Zt,Zt,Zt,Zf,Zf,Zf,Zf,Zf,Zf,Zf,Zf,Zf,Zf,Zf,Zf,Zf,Zf] rfl rfl (Xk HT_.out (by kernel_rfl)) (fun _ _ _ h => h) (Or.inr ⟨by rfl, rfl⟩) ?_ ?_
    rotate_left
    ·simp only [Act.put, Xa, Xb, Xc, Xh, Xi]
     rfl
    refine Xm (i := 22) (N := some 33) (v := undef) (a' := ?_) #[Zt,Zt,Zt,Zt,Zt,Zt,Zt,Zt,Zt,Zt,Zt,Zt,Zt,Zt,Zt,Zt,Zt,Zt,Zt,Zt,Zt,Zt,Zt,Zf,Zf,Zf,Zf,Zf,Zf,Zf,Zf,Zf,Zf,Zf,Zf,Zf] rfl rfl (Xk HT_.out (by kernel_rfl)) (fun _ _ _ h => h) (Or.inr ⟨by rfl, rfl⟩) ?_ ?_
    rotate_left
    ·simp only [Act.put, Xa, Xb, Xc, Xh, Xi]
     rfl
    refine Xm (i := 23) (N := some 34) (v := ?_) (a' := ?_) #[Zt,Zt,Zt,Zt,Zt,Zt,Zt,Zt,Zt,Zt,Zt,Zt,Zt,Zt,Zt,Zt,Zt,Zt,Zt,Zt,Zt,Zt,Zt,Zt,Zf,Zf,Zf,Zf,Zf,Zf,Zf,Zf,Zf,Zf,Zf,Zf] rfl rfl (Xk HT_.out (by kernel_rfl)) (fun _ _ _ h => h) (Or.inl ⟨by rfl, ?_⟩) ?_ ?_
    rotate_left
    ·intro w'
     go_simp
     with_reducible rfl
    rotate_left
    ·simp only [Act.put, Xa, Xb, Xc, Xh, Xi]
     rfl
    refine Xm (i := 24) (N := some 35) (v := ?_) (a' := ?_) #[Zt,Zt,Zt,Zt,Zt,Zt,Zt,Zt,Zt,Zt,Zt,Zt,Zt,Zt,Zt,Zt,Zt,Zt,Zt,Zt,Zt,Zt,Zt,Zt,Zt,Zf,Zf,Zf,Zf,Zf,Zf,Zf,Zf,Zf,Zf,Zf] rfl rfl (Xk HT_.out (by kernel_rfl)) (fun _ _ _ h => h) (Or.inl ⟨by rfl, ?_⟩) ?_ ?_
    rotate_left
    ·intro w'
     go_simp
     with_reducible rfl
    rotate_left
    ·simp only [Act.put, Xa, Xb, Xc, Xh, Xi]
     rfl
    refine Xm (i := 25) (N := some 36) (v := undef) (a' := ?_) #[Zt,Zt,Zt,Zt,Zt,Zt,Zt,Zt,Zt,Zt,Zt,Zt,Zt,Zt,Zt,Zt,Zt,Zt,Zt,Zt,Zt,Zt,Zt,Zt,Zt,Zt,Zf,Zf,Zf,Zf,Zf,Zf,Zf,Zf,Zf,Zf] rfl rfl (Xk HT_.out (by kernel_rfl)) (fun _ _ _ h => h) (Or.inr ⟨by rfl, rfl⟩) ?_ ?_
    rotate_left
    ·simp only [Act.put, Xa, Xb, Xc, Xh, Xi]
     rfl
    refine Xm (i := 26) (N := some 37) (v := undef) (a' := ?_) #[Zt,Zt,Zt,Zt,Zt,Zt,Zt,Zt,Zt,Zt,Zt,Zt,Zt,Zt,Zt,Zt,Zt,Zt,Zt,Zt,Zt,Zt,Zt,Zt,Zt,Zt,Zt,Zf,Zf,Zf,Zf,Zf,Zf,Zf,Zf,Zf] rfl rfl (Xk HT_.out (by kernel_rfl)) (fun _ _ _ h => h) (Or.inr ⟨by rfl, rfl⟩) ?_ ?_
    rotate_left
    ·simp only [Act.put, Xa, Xb, Xc, Xh, Xi]
     rfl
    refine Xm (i := 27) (N := some 38) (v := undef) (a' := ?_) #[Zt,Zt,Zt,Zt,Zt,Zt,Zt,Zt,Zt,Zt,Zt,Zt,Zt,Zt,Zt,Zt,Zt,Zt,Zt,Zt,Zt,Zt,Zt,Zt,Zt,Zt,Zt,Zt,Zf,Zf,Zf,Zf,Zf,Zf,Zf,Zf] rfl rfl (Xk HT_.out (by kernel_rfl)) (fun _ _ _ h => h) (Or.inr ⟨by rfl, rfl⟩) ?_ ?_
    rotate_left
    ·simp only [Act.put, Xa, Xb, Xc, Xh, Xi]
     rfl
    refine Xm (i := 28) (N := some 39) (v := undef) (a' := ?_) #[Zt,Zt,Zt,Zt,Zt,Zt,Zt,Zt,Zt,Zt,Zt,Zt,Zt,Zt,Zt,Zt,Zt,Zt,Zt,Zt,Zt,Zt,Zt,Zt,Zt,Zt,Zt,Zt,Zt,Zf,Zf,Zf,Zf,Zf,Zf,Zf] rfl rfl (Xk HT_.out (by kernel_rfl)) (fun _ _ _ h => h) (Or.inr ⟨by rfl, rfl⟩) ?_ ?_
    rotate_left
    ·simp only [Act.put, Xa, Xb, Xc, Xh, Xi]
     rfl
    refine Xm (i := 29) (N := some 40) (v := undef) (a' := ?_) #[Zt,Zt,Zt,Zt,Zt,Zt,Zt,Zt,Zt,Zt,Zt,Zt,Zt,Zt,Zt,Zt,Zt,Zt,Zt,Zt,Zt,Zt,Zt,Zt,Zt,Zt,Zt,Zt,Zt,Zt,Zf,Zf,Zf,Zf,Zf,Zf] rfl rfl (Xk HT_.out (by kernel_rfl)) (fun _ _ _ h => h) (Or.inr ⟨by rfl, rfl⟩) ?_ ?_
    rotate_left
    ·simp only [Act.put, Xa, Xb, Xc, Xh, Xi]
     rfl
    refine Xm (i := 30) (N := some 41) (v := undef) (a' := ?_) #[Zt,Zt,Zt,Zt,Zt,Zt,Zt,Zt,Zt,Zt,Zt,Zt,Zt,Zt,Zt,Zt,Zt,Zt,Zt,Zt,Zt,Zt,Zt,Zt,Zt,Zt,Zt,Zt,Zt,Zt,Zt,Zf,Zf,Zf,Zf,Zf] rfl rfl (Xk HT_.out (by kernel_rfl)) (fun _ _ _ h => h) (Or.inr ⟨by rfl, rfl⟩) ?_ ?_
    rotate_left
    ·simp only [Act.put, Xa, Xb, Xc, Xh, Xi]
     rfl
    refine Xm (i := 31) (N := some 42) (v := undef) (a' := ?_) #[Zt,Zt,Zt,Zt,Zt,Zt,Zt,Zt,Zt,Zt,Zt,Zt,Zt,Zt,Zt,Zt,Zt,Zt,Zt,Zt,Zt,Zt,Zt,Zt,Zt,Zt,Zt,Zt,Zt,Zt,Zt,Zt,Zf,Zf,Zf,Zf] rfl rfl (Xk HT_.out (by kernel_rfl)) (fun _ _ _ h => h) (Or.inr ⟨by rfl, rfl⟩) ?_ ?_
    rotate_left
    ·simp only [Act.put, Xa, Xb, Xc, Xh, Xi]
     rfl
    refine Xm (i := 32) (N := some 43) (v := undef) (a' := ?_) #[Zt,Zt,Zt,Zt,Zt,Zt,Zt,Zt,Zt,Zt,Zt,Zt,Zt,Zt,Zt,Zt,Zt,Zt,Zt,Zt,Zt,Zt,Zt,Zt,Zt,Zt,Zt,Zt,Zt,Zt,Zt,Zt,Zt,Zf,Zf,Zf] rfl rfl (Xk HT_.out (by kernel_rfl)) (fun _ _ _ h => h) (Or.inr ⟨by rfl, rfl⟩) ?_ ?_
    rotate_left
    ·simp only [Act.put, Xa, Xb, Xc, Xh, Xi]
     rfl
    refine Xm (i := 33) (N := some 44) (v := undef) (a' := ?_) #[Zt,Zt,Zt,Zt,Zt,Zt,Zt,Zt,Zt,Zt,Zt,Zt,Zt,Zt,Zt,Zt,Zt,Zt,Zt,Zt,Zt,Zt,Zt,Zt,Zt,Zt,Zt,Zt,Zt,Zt,Zt,Zt,Zt,Zt,Zf,Zf] rfl rfl (Xk HT_.out (by kernel_rfl)) (fun _ _ _ h => h) (Or.inr ⟨by rfl, rfl⟩) ?_ ?_
    rotate_left
    ·simp only [Act.put, Xa, Xb, Xc, Xh, Xi]
     rfl
    refine Xm (i := 34) (N := some 45) (v := ?_) (a' := ?_) #[Zt,Zt,Zt,Zt,Zt,Zt,Zt,Zt,Zt,Zt,Zt,Zt,Zt,Zt,Zt,Zt,Zt,Zt,Zt,Zt,Zt,Zt,Zt,Zt,Zt,Zt,Zt,Zt,Zt,Zt,Zt,Zt,Zt,Zt,Zt,Zf] rfl rfl (Xk HT_.out (by kernel_rfl)) (fun _ _ _ h => h) (Or.inl ⟨by rfl, ?_⟩) ?_ ?_
    rotate_left
    ·intro w'
     go_simp
     with_reducible rfl
    rotate_left
    ·simp only [Act.put, Xa, Xb, Xc, Xh, Xi]
     rfl
    refine Xm (i := 35) (N := some 4) (v := ?_) (a' := ?_) #[Zt,Zt,Zt,Zt,Zt,Zt,Zt,Zt,Zt,Zt,Zt,Zt,Zt,Zt,Zt,Zt,Zt,Zt,Zt,Zt,Zt,Zt,Zt,Zt,Zt,Zt,Zt,Zt,Zt,Zt,Zt,Zt,Zt,Zt,Zt,Zt] rfl rfl (Xk HT_.out (by kernel_rfl)) (fun _ _ _ h => h) (Or.inl ⟨by rfl, ?_⟩) ?_ ?_
    rotate_left
    ·intro w'
     go_simp
     with_reducible rfl
    rotate_left
    ·simp only [Act.put, Xa, Xb, Xc, Xh, Xi]
     rfl
    refine done_ (done_of HT_.out (by kernel_rfl)) ?_
    try go_wp2
    go_ret
    exact ⟨by first | rfl | (simp [errW_none, errW_some] <;> rfl) | (simp [*, errW_none, errW_some] <;> rfl), by repeat (first | (with_reducible first | exact HB.out | apply below_alloc | apply pw_below_drewN | apply below_drew1 | refine below_set ?_ GE299.out | refine below_set ?_ GE300.out | refine below_set ?_ GE309.out) | exact HB.out)⟩
  ·rw [if_neg c7] at H
   have c7b0 : ((t310 == a0_0 && (t311 == a0_1 && (t312 == a0_2 && (t313 == a0_3)))) && ((t314 == 0 && (t315 == 0 && (t316 == 0))))) = Zf := by simpa using c7
   clear c7
   obtain rfl := Option.some.inj H
   go_enter Try.func6, Try.ntmps6
   try go_wp2_with (first | ((with_reducible refine gate_dst (N := 2) rfl ?_); refine box_event ?hg (N := 2) ?hd (cs := #[.int .i64 a0_0, .int .i64 a0_1, .int .i64 a0_2, .int .i64 a0_3, .int .i64 a0_4, .int .i64 a0_5, .int .i64 a0_6]) (t := 55) ?hr ?_; (case hd => rfl); (case hg => rfl); (case hr => first | (go_simp; done) | (go_simp; rfl)); intro gb299 hg w65 hbox hb; have n0_ := Za (Xo (hb_11 HB.out) hb); have n1_ := Za (hbox); have n2_ := Za ((by rw [hg]; exact (Xp (hb_11 HB.out)) : w.heap.size ≤ gb299)); have n3_ := Za ((by rw [hg]; exact (Xp (hb_11 HB.out)) : w.heap.size ≤ gb299)); clear HB; have HB := n0_; have BK299 := n1_; have GW299 := n2_; have GE299 := n3_; clear n0_ n1_ n2_ n3_; clear hb hbox hg) | ((with_reducible refine gate_dst (N := 3) rfl ?_); refine box_event ?hg (N := 3) ?hd (cs := #[.int .i64 a1_0, .int .i64 a1_1, .int .i64 a1_2]) (t := 32) ?hr ?_; (case hd => rfl); (case hg => rfl); (case hr => first | (go_simp; done) | (go_simp; rfl)); intro gb300 hg w66 hbox hb; have n0_ := Za (Xl (g := gb299) (o := .cells #[.int .i64 a0_0, .int .i64 a0_1, .int .i64 a0_2, .int .i64 a0_3, .int .i64 a0_4, .int .i64 a0_5, .int .i64 a0_6] 55 (0, 0)) (bb_11 BK299.out) hb); have n1_ := Za (Xo (hb_11 HB.out) hb); have n2_ := Za (hbox); have n3_ := Za ((by rw [hg]; exact (Xp (hb_11 HB.out)) : w.heap.size ≤ gb300)); have n4_ := Za ((by rw [hg]; exact (Xp (hb_11 HB.out)) : w.heap.size ≤ gb300)); have n5_ := Za ((by rw [hg]; exact Nat.ne_of_lt (blk_lt (g := gb299) (o := .cells #[.int .i64 a0_0, .int .i64 a0_1, .int .i64 a0_2, .int .i64 a0_3, .int .i64 a0_4, .int .i64 a0_5, .int .i64 a0_6] 55 (0, 0)) (bb_11 BK299.out)) : gb299 ≠ gb300)); have n6_ := Za ((by rw [hg]; exact Nat.ne_of_gt (blk_lt (g := gb299) (o := .cells #[.int .i64 a0_0, .int .i64 a0_1, .int .i64 a0_2, .int .i64 a0_3, .int .i64 a0_4, .int .i64 a0_5, .int .i64 a0_6] 55 (0, 0)) (bb_11 BK299.out)) : gb300 ≠ gb299)); clear BK299; clear HB; have BK299 := n0_; have HB := n1_; have BK300 := n2_; have GW300 := n3_; have GE300 := n4_; have NB299_300 := n5_; have NB300_299 := n6_; clear n0_ n1_ n2_ n3_ n4_ n5_ n6_; clear hb hbox hg) | ((with_reducible refine gate_callee (f := 36) rfl ?_); refine goesL_ (some 6) rfl rfl Try.func36 (by kernel_rfl) rfl #[] rfl (by (try simp only [List.map_toArray, List.map_cons, List.map_nil]); first | done | rfl | (simp only [List.length_drop, List.length_take]; rfl)) ?_; (with_reducible refine (gatherumlaw38_alive.calls k  Zt _ A3.out).mono ?_); rintro e w67 ⟨rfl, hb⟩; refine ⟨_, rfl, ?_⟩; have n0_ := Za (Xl (g := gb299) (o := .cells #[.int .i64 a0_0, .int .i64 a0_1, .int .i64 a0_2, .int .i64 a0_3, .int .i64 a0_4, .int .i64 a0_5, .int .i64 a0_6] 55 (0, 0)) (bb_11 BK299.out) hb); have n1_ := Za (Xl (g := gb300) (o := .cells #[.int .i64 a1_0, .int .i64 a1_1, .int .i64 a1_2] 32 (0, 0)) (bb_11 BK300.out) hb); have n2_ := Za (Xo (hb_11 HB.out) hb); clear BK299; clear BK300; clear HB; have BK299 := n0_; have BK300 := n1_; have HB := n2_; clear n0_ n1_ n2_; (try clear hb); (try clear hb2); (try clear hk); (try clear hi); have hnb68 := NB299_300.out; have hnc68 := NB300_299.out; have hcz69_0 : w67.cell? ⟨gb299, 0, none⟩ = some (.int .i64 a0_0) := (Xd BK299.out 0).trans rfl; have hcz69_1 : w67.cell? ⟨gb299, 1, none⟩ = some (.int .i64 a0_1) := (Xd BK299.out 1).trans rfl; have hcz69_2 : w67.cell? ⟨gb299, 2, none⟩ = some (.int .i64 a0_2) := (Xd BK299.out 2).trans rfl; have hcz69_3 : w67.cell? ⟨gb299, 3, none⟩ = some (.int .i64 a0_3) := (Xd BK299.out 3).trans rfl; have hcz69_4 : w67.cell? ⟨gb299, 4, none⟩ = some (.int .i64 a0_4) := (Xd BK299.out 4).trans rfl; have hcz69_5 : w67.cell? ⟨gb299, 5, none⟩ = some (.int .i64 a0_5) := (Xd BK299.out 5).trans rfl; have hcz69_6 : w67.cell? ⟨gb299, 6, none⟩ = some (.int .i64 a0_6) := (Xd BK299.out 6).trans rfl; have hfz69_0 := Xj BK299.out 0; have hfz69_1 := Xj BK299.out 1; have hfz69_2 := Xj BK299.out 2; have hfz69_3 := Xj BK299.out 3; have hfz69_4 := Xj BK299.out 4; have hfz69_5 := Xj BK299.out 5; have hfz69_6 := Xj BK299.out 6; have hcz70_0 : w67.cell? ⟨gb300, 0, none⟩ = some (.int .i64 a1_0) := (Xd BK300.out 0).trans rfl; have hcz70_1 : w67.cell? ⟨gb300, 1, none⟩ = some (.int .i64 a1_1) := (Xd BK300.out 1).trans rfl; have hcz70_2 : w67.cell? ⟨gb300, 2, none⟩ = some (.int .i64 a1_2) := (Xd BK300.out 2).trans rfl; have hfz70_0 := Xj BK300.out 0; have hfz70_1 := Xj BK300.out 1; have hfz70_2 := Xj BK300.out 2) | ((with_reducible refine gate_callee (f := 37) rfl ?_); refine goesL_ (some 10) rfl rfl Try.func37 (by kernel_rfl) rfl #[.agg #[.int .i64 a0_0, .int .i64 a0_1, .int .i64 a0_2, .int .i64 a0_3, .int .i64 a0_4, .int .i64 a0_5, .int .i64 a0_6], .agg #[.int .i64 a1_0, .int .i64 a1_1, .int .i64 a1_2]] rfl (by (try simp only [List.map_toArray, List.map_cons, List.map_nil]); first | done | rfl | (simp only [List.length_drop, List.length_take]; rfl)) ?_; (with_reducible refine (layer_Lay.calls k a0_0 a0_1 a0_2 a0_3 a0_4 a0_5 a0_6 a1_0 a1_1 a1_2 t302 t303 t304 t305 t306 t307 t308 _ A5.out).mono ?_); rintro e w71 ⟨rfl, hb⟩; refine ⟨_, rfl, ?_⟩; have n0_ := Za (Xl (g := gb299) (o := .cells #[.int .i64 a0_0, .int .i64 a0_1, .int .i64 a0_2, .int .i64 a0_3, .int .i64 a0_4, .int .i64 a0_5, .int .i64 a0_6] 55 (0, 0)) (bb_11 BK299.out) hb); have n1_ := Za (Xl (g := gb300) (o := .cells #[.int .i64 a1_0, .int .i64 a1_1, .int .i64 a1_2] 32 (0, 0)) (bb_11 BK300.out) hb); have n2_ := Za (Xo (hb_11 HB.out) hb); clear BK299; clear BK300; clear HB; have BK299 := n0_; have BK300 := n1_; have HB := n2_; clear n0_ n1_ n2_; (try clear hb); (try clear hb2); (try clear hk); (try clear hi)) | ((with_reducible refine gate_dst (N := 5) rfl ?_); refine box_event ?hg (N := 5) ?hd (cs := #[.int .i64 0, .int .i64 0, .int .i64 0, .int .i64 0, .int .i64 0, .int .i64 0, .int .i64 0]) (t := 55) ?hr ?_; (case hd => rfl); (case hg => rfl); (case hr => first | (go_simp; done) | (go_simp; rfl)); intro gb309 hg w72 hbox hb; have n0_ := Za (Xl (g := gb299) (o := .cells #[.int .i64 a0_0, .int .i64 a0_1, .int .i64 a0_2, .int .i64 a0_3, .int .i64 a0_4, .int .i64 a0_5, .int .i64 a0_6] 55 (0, 0)) (bb_11 BK299.out) hb); have n1_ := Za (Xl (g := gb300) (o := .cells #[.int .i64 a1_0, .int .i64 a1_1, .int .i64 a1_2] 32 (0, 0)) (bb_11 BK300.out) hb); have n2_ := Za (Xo (hb_11 HB.out) hb); have n3_ := Za (hbox); have n4_ := Za ((by rw [hg]; exact (Xp (hb_11 HB.out)) : w.heap.size ≤ gb309)); have n5_ := Za ((by rw [hg]; exact (Xp (hb_11 HB.out)) : w.heap.size ≤ gb309)); have n6_ := Za ((by rw [hg]; exact Nat.ne_of_lt (blk_lt (g := gb299) (o := .cells #[.int .i64 a0_0, .int .i64 a0_1, .int .i64 a0_2, .int .i64 a0_3, .int .i64 a0_4, .int .i64 a0_5, .int .i64 a0_6] 55 (0, 0)) (bb_11 BK299.out)) : gb299 ≠ gb309)); have n7_ := Za ((by rw [hg]; exact Nat.ne_of_gt (blk_lt (g := gb299) (o := .cells #[.int .i64 a0_0, .int .i64 a0_1, .int .i64 a0_2, .int .i64 a0_3, .int .i64 a0_4, .int .i64 a0_5, .int .i64 a0_6] 55 (0, 0)) (bb_11 BK299.out)) : gb309 ≠ gb299)); have n8_ := Za ((by rw [hg]; exact Nat.ne_of_lt (blk_lt (g := gb300) (o := .cells #[.int .i64 a1_0, .int .i64 a1_1, .int .i64 a1_2] 32 (0, 0)) (bb_11 BK300.out)) : gb300 ≠ gb309)); have n9_ := Za ((by rw [hg]; exact Nat.ne_of_gt (blk_lt (g := gb300) (o := .cells #[.int .i64 a1_0, .int .i64 a1_1, .int .i64 a1_2] 32 (0, 0)) (bb_11 BK300.out)) : gb309 ≠ gb300)); clear BK299; clear BK300; clear HB; have BK299 := n0_; have BK300 := n1_; have HB := n2_; have BK309 := n3_; have GW309 := n4_; have GE309 := n5_; have NB299_309 := n6_; have NB309_299 := n7_; have NB300_309 := n8_; have NB309_300 := n9_; clear n0_ n1_ n2_ n3_ n4_ n5_ n6_ n7_ n8_ n9_; clear hb hbox hg; have hnb73 := NB309_299.out; have hnc73 := NB299_309.out; have hnb74 := NB309_300.out; have hnc74 := NB300_309.out; have hcz75_0 : w72.cell? ⟨gb309, 0, none⟩ = some (.int .i64 0) := (Xd BK309.out 0).trans rfl; have hcz75_1 : w72.cell? ⟨gb309, 1, none⟩ = some (.int .i64 0) := (Xd BK309.out 1).trans rfl; have hcz75_2 : w72.cell? ⟨gb309, 2, none⟩ = some (.int .i64 0) := (Xd BK309.out 2).trans rfl; have hcz75_3 : w72.cell? ⟨gb309, 3, none⟩ = some (.int .i64 0) := (Xd BK309.out 3).trans rfl; have hcz75_4 : w72.cell? ⟨gb309, 4, none⟩ = some (.int .i64 0) := (Xd BK309.out 4).trans rfl; have hcz75_5 : w72.cell? ⟨gb309, 5, none⟩ = some (.int .i64 0) := (Xd BK309.out 5).trans rfl; have hcz75_6 : w72.cell? ⟨gb309, 6, none⟩ = some (.int .i64 0) := (Xd BK309.out 6).trans rfl; have hfz75_0 := Xj BK309.out 0; have hfz75_1 := Xj BK309.out 1; have hfz75_2 := Xj BK309.out 2; have hfz75_3 := Xj BK309.out 3; have hfz75_4 := Xj BK309.out 4; have hfz75_5 := Xj BK309.out 5; have hfz75_6 := Xj BK309.out 6))
   have n0_ : Aside0 ((((((((w72.setCell ⟨gb309, 0, none⟩ (.int .i64 t302)).setCell ⟨gb309, 1, none⟩ (.int .i64 t303)).setCell ⟨gb309, 2, none⟩ (.int .i64 t304)).setCell ⟨gb309, 3, none⟩ (.int .i64 t305)).setCell ⟨gb309, 4, none⟩ (.int .i64 t306)).setCell ⟨gb309, 5, none⟩ (.int .i64 t307)).setCell ⟨gb309, 6, none⟩ (.int .i64 t308)).heap[gb299]? = some (.cells #[.int .i64 a0_0, .int .i64 a0_1, .int .i64 a0_2, .int .i64 a0_3, .int .i64 a0_4, .int .i64 a0_5, .int .i64 a0_6] 55 (0, 0))) := ⟨by (with_reducible repeat (first | refine Xe ?_ _ | refine Xf ?_ | refine Xg ?_ _)); refine Xn ?_ NB299_309.out _; (with_reducible repeat (first | refine Xe ?_ _ | refine Xf ?_ | refine Xg ?_ _)); refine Xn ?_ NB299_309.out _; (with_reducible repeat (first | refine Xe ?_ _ | refine Xf ?_ | refine Xg ?_ _)); refine Xn ?_ NB299_309.out _; (with_reducible repeat (first | refine Xe ?_ _ | refine Xf ?_ | refine Xg ?_ _)); refine Xn ?_ NB299_309.out _; (with_reducible repeat (first | refine Xe ?_ _ | refine Xf ?_ | refine Xg ?_ _)); refine Xn ?_ NB299_309.out _; (with_reducible repeat (first | refine Xe ?_ _ | refine Xf ?_ | refine Xg ?_ _)); refine Xn ?_ NB299_309.out _; (with_reducible repeat (first | refine Xe ?_ _ | refine Xf ?_ | refine Xg ?_ _)); refine Xn ?_ NB299_309.out _; (with_reducible repeat (first | refine Xe ?_ _ | refine Xf ?_ | refine Xg ?_ _)); exact BK299.out⟩
   have n1_ : Aside0 ((((((((w72.setCell ⟨gb309, 0, none⟩ (.int .i64 t302)).setCell ⟨gb309, 1, none⟩ (.int .i64 t303)).setCell ⟨gb309, 2, none⟩ (.int .i64 t304)).setCell ⟨gb309, 3, none⟩ (.int .i64 t305)).setCell ⟨gb309, 4, none⟩ (.int .i64 t306)).setCell ⟨gb309, 5, none⟩ (.int .i64 t307)).setCell ⟨gb309, 6, none⟩ (.int .i64 t308)).heap[gb300]? = some (.cells #[.int .i64 a1_0, .int .i64 a1_1, .int .i64 a1_2] 32 (0, 0))) := ⟨by (with_reducible repeat (first | refine Xe ?_ _ | refine Xf ?_ | refine Xg ?_ _)); refine Xn ?_ NB300_309.out _; (with_reducible repeat (first | refine Xe ?_ _ | refine Xf ?_ | refine Xg ?_ _)); refine Xn ?_ NB300_309.out _; (with_reducible repeat (first | refine Xe ?_ _ | refine Xf ?_ | refine Xg ?_ _)); refine Xn ?_ NB300_309.out _; (with_reducible repeat (first | refine Xe ?_ _ | refine Xf ?_ | refine Xg ?_ _)); refine Xn ?_ NB300_309.out _; (with_reducible repeat (first | refine Xe ?_ _ | refine Xf ?_ | refine Xg ?_ _)); refine Xn ?_ NB300_309.out _; (with_reducible repeat (first | refine Xe ?_ _ | refine Xf ?_ | refine Xg ?_ _)); refine Xn ?_ NB300_309.out _; (with_reducible repeat (first | refine Xe ?_ _ | refine Xf ?_ | refine Xg ?_ _)); refine Xn ?_ NB300_309.out _; (with_reducible repeat (first | refine Xe ?_ _ | refine Xf ?_ | refine Xg ?_ _)); exact BK300.out⟩
   have n2_ : Aside0 ((((((((w72.setCell ⟨gb309, 0, none⟩ (.int .i64 t302)).setCell ⟨gb309, 1, none⟩ (.int .i64 t303)).setCell ⟨gb309, 2, none⟩ (.int .i64 t304)).setCell ⟨gb309, 3, none⟩ (.int .i64 t305)).setCell ⟨gb309, 4, none⟩ (.int .i64 t306)).setCell ⟨gb309, 5, none⟩ (.int .i64 t307)).setCell ⟨gb309, 6, none⟩ (.int .i64 t308)).heap[gb309]? = some (.cells #[.int .i64 t302, .int .i64 t303, .int .i64 t304, .int .i64 t305, .int .i64 t306, .int .i64 t307, .int .i64 t308] 55 (0, 0))) := ⟨by (with_reducible repeat (first | refine Xe ?_ _ | refine Xf ?_ | refine Xg ?_ _)); refine blk_put (cs := #[.int .i64 t302, .int .i64 t303, .int .i64 t304, .int .i64 t305, .int .i64 t306, .int .i64 t307, .int .i64 0]) ?_ 6 _ rfl; (with_reducible repeat (first | refine Xe ?_ _ | refine Xf ?_ | refine Xg ?_ _)); refine blk_put (cs := #[.int .i64 t302, .int .i64 t303, .int .i64 t304, .int .i64 t305, .int .i64 t306, .int .i64 0, .int .i64 0]) ?_ 5 _ rfl; (with_reducible repeat (first | refine Xe ?_ _ | refine Xf ?_ | refine Xg ?_ _)); refine blk_put (cs := #[.int .i64 t302, .int .i64 t303, .int .i64 t304, .int .i64 t305, .int .i64 0, .int .i64 0, .int .i64 0]) ?_ 4 _ rfl; (with_reducible repeat (first | refine Xe ?_ _ | refine Xf ?_ | refine Xg ?_ _)); refine blk_put (cs := #[.int .i64 t302, .int .i64 t303, .int .i64 t304, .int .i64 0, .int .i64 0, .int .i64 0, .int .i64 0]) ?_ 3 _ rfl; (with_reducible repeat (first | refine Xe ?_ _ | refine Xf ?_ | refine Xg ?_ _)); refine blk_put (cs := #[.int .i64 t302, .int .i64 t303, .int .i64 0, .int .i64 0, .int .i64 0, .int .i64 0, .int .i64 0]) ?_ 2 _ rfl; (with_reducible repeat (first | refine Xe ?_ _ | refine Xf ?_ | refine Xg ?_ _)); refine blk_put (cs := #[.int .i64 t302, .int .i64 0, .int .i64 0, .int .i64 0, .int .i64 0, .int .i64 0, .int .i64 0]) ?_ 1 _ rfl; (with_reducible repeat (first | refine Xe ?_ _ | refine Xf ?_ | refine Xg ?_ _)); refine blk_put (cs := #[.int .i64 0, .int .i64 0, .int .i64 0, .int .i64 0, .int .i64 0, .int .i64 0, .int .i64 0]) ?_ 0 _ rfl; (with_reducible repeat (first | refine Xe ?_ _ | refine Xf ?_ | refine Xg ?_ _)); exact BK309.out⟩
   have n3_ : Aside0 (Below w.heap.size w (((((((w72.setCell ⟨gb309, 0, none⟩ (.int .i64 t302)).setCell ⟨gb309, 1, none⟩ (.int .i64 t303)).setCell ⟨gb309, 2, none⟩ (.int .i64 t304)).setCell ⟨gb309, 3, none⟩ (.int .i64 t305)).setCell ⟨gb309, 4, none⟩ (.int .i64 t306)).setCell ⟨gb309, 5, none⟩ (.int .i64 t307)).setCell ⟨gb309, 6, none⟩ (.int .i64 t308))) := ⟨by repeat (first | (with_reducible first | exact HB.out | apply below_alloc | apply pw_below_drewN | apply below_drew1 | refine below_set ?_ GE299.out | refine below_set ?_ GE300.out | refine below_set ?_ GE309.out) | exact HB.out)⟩
   (try clear BK299)
   (try clear BK300)
   (try clear BK309)
   (try clear HB)
   generalize (((((((w72.setCell ⟨gb309, 0, none⟩ (.int .i64 t302)).setCell ⟨gb309, 1, none⟩ (.int .i64 t303)).setCell ⟨gb309, 2, none⟩ (.int .i64 t304)).setCell ⟨gb309, 3, none⟩ (.int .i64 t305)).setCell ⟨gb309, 4, none⟩ (.int .i64 t306)).setCell ⟨gb309, 5, none⟩ (.int .i64 t307)).setCell ⟨gb309, 6, none⟩ (.int .i64 t308)) = w76 at n0_ n1_ n2_ n3_ ⊢
   have BK299 := n0_
   have BK300 := n1_
   have BK309 := n2_
   have HB := n3_
   clear n0_ n1_ n2_ n3_
   have n0_ := Za (Xf BK299.out)
   have n1_ := Za (Xf BK300.out)
   have n2_ := Za (Xf BK309.out)
   have n3_ := Za (below_drew1 HB.out)
   clear BK299
   clear BK300
   clear BK309
   clear HB
   have BK299 := n0_
   have BK300 := n1_
   have BK309 := n2_
   have HB := n3_
   clear n0_ n1_ n2_ n3_
   refine start_ (n := 36) (S := fun w' => w'.cell? ⟨gb299, 0, none⟩ = some (.int .i64 a0_0) ∧ w'.cell? ⟨gb299, 1, none⟩ = some (.int .i64 a0_1) ∧ w'.cell? ⟨gb299, 2, none⟩ = some (.int .i64 a0_2) ∧ w'.cell? ⟨gb299, 3, none⟩ = some (.int .i64 a0_3) ∧ w'.cell? ⟨gb299, 4, none⟩ = some (.int .i64 a0_4) ∧ w'.cell? ⟨gb299, 5, none⟩ = some (.int .i64 a0_5) ∧ w'.cell? ⟨gb299, 6, none⟩ = some (.int .i64 a0_6)) (ds := []) #[Zf,Zf,Zf,Zf,Zf,Zf,Zf,Zf,Zf,Zf,Zf,Zf,Zf,Zf,Zf,Zf,Zf,Zf,Zf,Zf,Zf,Zf,Zf,Zf,Zf,Zf,Zf,Zf,Zf,Zf,Zf,Zf,Zf,Zf,Zf,Zf] (by kernel_rfl) rfl rfl ⟨(Xd BK299.out 0).trans rfl, (Xd BK299.out 1).trans rfl, (Xd BK299.out 2).trans rfl, (Xd BK299.out 3).trans rfl, (Xd BK299.out 4).trans rfl, (Xd BK299.out 5).trans rfl, (Xd BK299.out 6).trans rfl⟩ (fun hHeld => ?_); refine with_tabW gatherumlaw38_LayerLies.tab4 gatherumlaw38_LayerLies.bits4 (fun HT_ HW_ => ?_)
   generalize w76.drew = w77 at BK299 BK300 BK309 HB hHeld ⊢
   refine Xm (i := 0) (N := some 11) (v := ?_) (a' := ?_) #[Zt,Zf,Zf,Zf,Zf,Zf,Zf,Zf,Zf,Zf,Zf,Zf,Zf,Zf,Zf,Zf,Zf,Zf,Zf,Zf,Zf,Zf,Zf,Zf,Zf,Zf,Zf,Zf,Zf,Zf,Zf,Zf,Zf,Zf,Zf,Zf] rfl rfl (Xk HT_.out (by kernel_rfl)) (fun _ _ _ h => h) (Or.inl ⟨by rfl, ?_⟩) ?_ ?_
   rotate_left
   ·intro w'
    go_simp
    with_reducible rfl
   rotate_left
   ·simp only [Act.put, Xa, Xb, Xc, Xh, Xi]
    rfl
   refine Xm (i := 3) (N := some 14) (v := ?_) (a' := ?_) #[Zt,Zf,Zf,Zt,Zf,Zf,Zf,Zf,Zf,Zf,Zf,Zf,Zf,Zf,Zf,Zf,Zf,Zf,Zf,Zf,Zf,Zf,Zf,Zf,Zf,Zf,Zf,Zf,Zf,Zf,Zf,Zf,Zf,Zf,Zf,Zf] rfl rfl (Xk HT_.out (by kernel_rfl)) (fun _ _ _ h => h) (Or.inl ⟨by rfl, ?_⟩) ?_ ?_
   rotate_left
   ·intro w'
    go_simp
    with_reducible rfl
   rotate_left
   ·simp only [Act.put, Xa, Xb, Xc, Xh, Xi]
    rfl
   refine take_ (i := 1) (N := some 12) (v := ?_) (a' := ?_) #[Zt,Zt,Zf,Zt,Zf,Zf,Zf,Zf,Zf,Zf,Zf,Zf,Zf,Zf,Zf,Zf,Zf,Zf,Zf,Zf,Zf,Zf,Zf,Zf,Zf,Zf,Zf,Zf,Zf,Zf,Zf,Zf,Zf,Zf,Zf,Zf] rfl rfl (take_ofW HT_.out HW_.out (by kernel_rfl)) (fun _ _ _ h => h) (Or.inl ⟨by rfl, ?_⟩) hHeld ?_ ?_
   rotate_left
   ·rintro w' ⟨s0, s1, s2, s3, s4, s5, s6⟩
    go_simp
    with_reducible rfl
   rotate_left
   ·simp only [Act.put, Xa, Xb, Xc, Xh, Xi]
    rfl
   refine take_ (i := 4) (N := some 15) (v := ?_) (a' := ?_) #[Zt,Zt,Zf,Zt,Zt,Zf,Zf,Zf,Zf,Zf,Zf,Zf,Zf,Zf,Zf,Zf,Zf,Zf,Zf,Zf,Zf,Zf,Zf,Zf,Zf,Zf,Zf,Zf,Zf,Zf,Zf,Zf,Zf,Zf,Zf,Zf] rfl rfl (take_ofW HT_.out HW_.out (by kernel_rfl)) (fun _ _ _ h => h) (Or.inl ⟨by rfl, ?_⟩) hHeld ?_ ?_
   rotate_left
   ·rintro w' ⟨s0, s1, s2, s3, s4, s5, s6⟩
    go_simp
    with_reducible rfl
   rotate_left
   ·simp only [Act.put, Xa, Xb, Xc, Xh, Xi]
    rfl
   refine Xm (i := 5) (N := some 16) (v := ?_) (a' := ?_) #[Zt,Zt,Zf,Zt,Zt,Zt,Zf,Zf,Zf,Zf,Zf,Zf,Zf,Zf,Zf,Zf,Zf,Zf,Zf,Zf,Zf,Zf,Zf,Zf,Zf,Zf,Zf,Zf,Zf,Zf,Zf,Zf,Zf,Zf,Zf,Zf] rfl rfl (Xk HT_.out (by kernel_rfl)) (fun _ _ _ h => h) (Or.inl ⟨by rfl, ?_⟩) ?_ ?_
   rotate_left
   ·intro w'
    go_simp
    with_reducible rfl
   rotate_left
   ·simp only [Act.put, Xa, Xb, Xc, Xh, Xi]
    rfl
   refine one_ (i := 2) (N := some 13) #[Zt,Zt,Zt,Zt,Zt,Zt,Zf,Zf,Zf,Zf,Zf,Zf,Zf,Zf,Zf,Zf,Zf,Zf,Zf,Zf,Zf,Zf,Zf,Zf,Zf,Zf,Zf,Zf,Zf,Zf,Zf,Zf,Zf,Zf,Zf,Zf] rfl rfl (one_of HT_.out (by kernel_rfl)) (by decide) (fun K hK => ?_)
   refine goes_ Try.func38 (by kernel_rfl) rfl #[.agg #[.int .i64 a0_0, .int .i64 a0_1, .int .i64 a0_2, .int .i64 a0_3]] (by rfl) rfl rfl (by (try simp only [List.map_toArray, List.map_cons, List.map_nil]); first | done | rfl | (simp only [List.length_drop, List.length_take]; rfl)) ?_
   with_reducible refine (layer_Of.calls a0_0 a0_1 a0_2 a0_3 t310 t311 t312 t313 t314 t315 t316 _ A6.out).mono ?_
   rintro e w78 ⟨rfl, hb⟩
   refine ⟨_, rfl, ?_⟩
   have n0_ := Za (Xl (g := gb299) (o := .cells #[.int .i64 a0_0, .int .i64 a0_1, .int .i64 a0_2, .int .i64 a0_3, .int .i64 a0_4, .int .i64 a0_5, .int .i64 a0_6] 55 (0, 0)) (bb_11 BK299.out) hb)
   have n1_ := Za (Xl (g := gb300) (o := .cells #[.int .i64 a1_0, .int .i64 a1_1, .int .i64 a1_2] 32 (0, 0)) (bb_11 BK300.out) hb)
   have n2_ := Za (Xl (g := gb309) (o := .cells #[.int .i64 t302, .int .i64 t303, .int .i64 t304, .int .i64 t305, .int .i64 t306, .int .i64 t307, .int .i64 t308] 55 (0, 0)) (bb_11 BK309.out) hb)
   have n3_ := Za (Xo (hb_11 HB.out) hb)
   clear BK299
   clear BK300
   clear BK309
   clear HB
   have BK299 := n0_
   have BK300 := n1_
   have BK309 := n2_
   have HB := n3_
   clear n0_ n1_ n2_ n3_
   (try clear hb)
   (try clear hb2)
   (try clear hk)
   (try clear hi)
   refine hK.out _ _ ⟨(Xd BK299.out 0).trans rfl, (Xd BK299.out 1).trans rfl, (Xd BK299.out 2).trans rfl, (Xd BK299.out 3).trans rfl, (Xd BK299.out 4).trans rfl, (Xd BK299.out 5).trans rfl, (Xd BK299.out 6).trans rfl⟩ (fun hHeld => ?_)
   clear hK K
   refine norm_ (a' := ?_) ?_ ?_
   rotate_left
   ·show Act.put _ (some 13) _ = _
    simp only [Act.put, Xa, Xb, Xc, Xh, Xi]
    rfl
   refine Xm (i := 6) (N := some 17) (v := ?_) (a' := ?_) #[Zt,Zt,Zt,Zt,Zt,Zt,Zt,Zf,Zf,Zf,Zf,Zf,Zf,Zf,Zf,Zf,Zf,Zf,Zf,Zf,Zf,Zf,Zf,Zf,Zf,Zf,Zf,Zf,Zf,Zf,Zf,Zf,Zf,Zf,Zf,Zf] rfl rfl (Xk HT_.out (by kernel_rfl)) (fun _ _ _ h => h) (Or.inl ⟨by rfl, ?_⟩) ?_ ?_
   rotate_left
   ·intro w'
    go_simp
    with_reducible rfl
   rotate_left
   ·simp only [Act.put, Xa, Xb, Xc, Xh, Xi]
    rfl
   refine Xm (i := 7) (N := some 18) (v := ?_) (a' := ?_) #[Zt,Zt,Zt,Zt,Zt,Zt,Zt,Zt,Zf,Zf,Zf,Zf,Zf,Zf,Zf,Zf,Zf,Zf,Zf,Zf,Zf,Zf,Zf,Zf,Zf,Zf,Zf,Zf,Zf,Zf,Zf,Zf,Zf,Zf,Zf,Zf] rfl rfl (Xk HT_.out (by kernel_rfl)) (fun _ _ _ h => h) (Or.inl ⟨by rfl, ?_⟩) ?_ ?_
   rotate_left
   ·intro w'
    go_simp
    with_reducible rfl
   rotate_left
   ·simp only [Act.put, Xa, Xb, Xc, Xh, Xi]
    rfl
   refine Xm (i := 8) (N := some 19) (v := undef) (a' := ?_) #[Zt,Zt,Zt,Zt,Zt,Zt,Zt,Zt,Zt,Zf,Zf,Zf,Zf,Zf,Zf,Zf,Zf,Zf,Zf,Zf,Zf,Zf,Zf,Zf,Zf,Zf,Zf,Zf,Zf,Zf,Zf,Zf,Zf,Zf,Zf,Zf] rfl rfl (Xk HT_.out (by kernel_rfl)) (fun _ _ _ h => h) (Or.inr ⟨by rfl, rfl⟩) ?_ ?_
   rotate_left
   ·simp only [Act.put, Xa, Xb, Xc, Xh, Xi]
    rfl
   refine Xm (i := 9) (N := some 20) (v := undef) (a' := ?_) #[Zt,Zt,Zt,Zt,Zt,Zt,Zt,Zt,Zt,Zt,Zf,Zf,Zf,Zf,Zf,Zf,Zf,Zf,Zf,Zf,Zf,Zf,Zf,Zf,Zf,Zf,Zf,Zf,Zf,Zf,Zf,Zf,Zf,Zf,Zf,Zf] rfl rfl (Xk HT_.out (by kernel_rfl)) (fun _ _ _ h => h) (Or.inr ⟨by rfl, rfl⟩) ?_ ?_
   rotate_left
   ·simp only [Act.put, Xa, Xb, Xc, Xh, Xi]
    rfl
   refine Xm (i := 10) (N := some 21) (v := undef) (a' := ?_) #[Zt,Zt,Zt,Zt,Zt,Zt,Zt,Zt,Zt,Zt,Zt,Zf,Zf,Zf,Zf,Zf,Zf,Zf,Zf,Zf,Zf,Zf,Zf,Zf,Zf,Zf,Zf,Zf,Zf,Zf,Zf,Zf,Zf,Zf,Zf,Zf] rfl rfl (Xk HT_.out (by kernel_rfl)) (fun _ _ _ h => h) (Or.inr ⟨by rfl, rfl⟩) ?_ ?_
   rotate_left
   ·simp only [Act.put, Xa, Xb, Xc, Xh, Xi]
    rfl
   refine Xm (i := 11) (N := some 22) (v := undef) (a' := ?_) #[Zt,Zt,Zt,Zt,Zt,Zt,Zt,Zt,Zt,Zt,Zt,Zt,Zf,Zf,Zf,Zf,Zf,Zf,Zf,Zf,Zf,Zf,Zf,Zf,Zf,Zf,Zf,Zf,Zf,Zf,Zf,Zf,Zf,Zf,Zf,Zf] rfl rfl (Xk HT_.out (by kernel_rfl)) (fun _ _ _ h => h) (Or.inr ⟨by rfl, rfl⟩) ?_ ?_
   rotate_left
   ·simp only [Act.put, Xa, Xb, Xc, Xh, Xi]
    rfl
   refine Xm (i := 12) (N := some 23) (v := undef) (a' := ?_) #[Zt,Zt,Zt,Zt,Zt,Zt,Zt,Zt,Zt,Zt,Zt,Zt,Zt,Zf,Zf,Zf,Zf,Zf,Zf,Zf,Zf,Zf,Zf,Zf,Zf,Zf,Zf,Zf,Zf,Zf,Zf,Zf,Zf,Zf,Zf,Zf] rfl rfl (Xk HT_.out (by kernel_rfl)) (fun _ _ _ h => h) (Or.inr ⟨by rfl, rfl⟩) ?_ ?_
   rotate_left
   ·simp only [Act.put, Xa, Xb, Xc, Xh, Xi]
    rfl
   refine Xm (i := 13) (N := some 24) (v := ?_) (a' := ?_) #[Zt,Zt,Zt,Zt,Zt,Zt,Zt,Zt,Zt,Zt,Zt,Zt,Zt,Zt,Zf,Zf,Zf,Zf,Zf,Zf,Zf,Zf,Zf,Zf,Zf,Zf,Zf,Zf,Zf,Zf,Zf,Zf,Zf,Zf,Zf,Zf] rfl rfl (Xk HT_.out (by kernel_rfl)) (fun _ _ _ h => h) (Or.inl ⟨by rfl, ?_⟩) ?_ ?_
   rotate_left
   ·intro w'
    go_simp
    with_reducible rfl
   rotate_left
   ·simp only [Act.put, Xa, Xb, Xc, Xh, Xi]
    rfl
   refine Xm (i := 14) (N := some 25) (v := ?_) (a' := ?_) #[Zt,Zt,Zt,Zt,Zt,Zt,Zt,Zt,Zt,Zt,Zt,Zt,Zt,Zt,Zt,Zf,Zf,Zf,Zf,Zf,Zf,Zf,Zf,Zf,Zf,Zf,Zf,Zf,Zf,Zf,Zf,Zf,Zf,Zf,Zf,Zf] rfl rfl (Xk HT_.out (by kernel_rfl)) (fun _ _ _ h => h) (Or.inl ⟨by rfl, ?_⟩) ?_ ?_
   rotate_left
   ·intro w'
    go_simp
    with_reducible rfl
   rotate_left
   ·simp only [Act.put, Xa, Xb, Xc, Xh, Xi]
    rfl
   refine Xm (i := 15) (N := some 26) (v := undef) (a' := ?_) #[Zt,Zt,Zt,Zt,Zt,Zt,Zt,Zt,Zt,Zt,Zt,Zt,Zt,Zt,Zt,Zt,Zf,Zf,Zf,Zf,Zf,Zf,Zf,Zf,Zf,Zf,Zf,Zf,Zf,Zf,Zf,Zf,Zf,Zf,Zf,Zf] rfl rfl (Xk HT_.out (by kernel_rfl)) (fun _ _ _ h => h) (Or.inr ⟨by rfl, rfl⟩) ?_ ?_
   rotate_left
   ·simp only [Act.put, Xa, Xb, Xc, Xh, Xi]
    rfl
   refine Xm (i := 16) (N := some 27) (v := undef) (a' := ?_) #[Zt,Zt,Zt,Zt,Zt,Zt,Zt,Zt,Zt,Zt,Zt,Zt,Zt,Zt,Zt,Zt,Zt,Zf,Zf,Zf,Zf,Zf,Zf,Zf,Zf,Zf,Zf,Zf,Zf,Zf,Zf,Zf,Zf,Zf,Zf,Zf] rfl rfl (Xk HT_.out (by kernel_rfl)) (fun _ _ _ h => h) (Or.inr ⟨by rfl, rfl⟩) ?_ ?_
   rotate_left
   ·simp only [Act.put, Xa, Xb, Xc, Xh, Xi]
    rfl
   refine Xm (i := 17) (N := some 28) (v := undef) (a' := ?_) #[Zt,Zt,Zt,Zt,Zt,Zt,Zt,Zt,Zt,Zt,Zt,Zt,Zt,Zt,Zt,Zt,Zt,Zt,Zf,Zf,Zf,Zf,Zf,Zf,Zf,Zf,Zf,Zf,Zf,Zf,Zf,Zf,Zf,Zf,Zf,Zf] rfl rfl (Xk HT_.out (by kernel_rfl)) (fun _ _ _ h => h) (Or.inr ⟨by rfl, rfl⟩) ?_ ?_
   rotate_left
   ·simp only [Act.put, Xa, Xb, Xc, Xh, Xi]
    rfl
   refine Xm (i := 18) (N := some 29) (v := undef) (a' := ?_) #[Zt,Zt,Zt,Zt,Zt,Zt,Zt,Zt,Zt,Zt,Zt,Zt,Zt,Zt,Zt,Zt,Zt,Zt,Zt,Zf,Zf,Zf,Zf,Zf,Zf,Zf,Zf,Zf,Zf,Zf,Zf,Zf,Zf,Zf,Zf,Zf] rfl rfl (Xk HT_.out (by kernel_rfl)) (fun _ _ _ h => h) (Or.inr ⟨by rfl, rfl⟩) ?_ ?_
   rotate_left
   ·simp only [Act.put, Xa, Xb, Xc, Xh, Xi]
    rfl
   refine Xm (i := 19) (N := some 30) (v := undef) (a' := ?_) #[Zt,Zt,Zt,Zt,Zt,Zt,Zt,Zt,Zt,Zt,Zt,Zt,Zt,Zt,Zt,Zt,Zt,Zt,Zt,Zt,Zf,Zf,Zf,Zf,Zf,Zf,Zf,Zf,Zf,Zf,Zf,Zf,Zf,Zf,Zf,Zf] rfl rfl (Xk HT_.out (by kernel_rfl)) (fun _ _ _ h => h) (Or.inr ⟨by rfl, rfl⟩) ?_ ?_
   rotate_left
   ·simp only [Act.put, Xa, Xb, Xc, Xh, Xi]
    rfl
   refine Xm (i := 20) (N := some 31) (v := undef) (a' := ?_) #[Zt,Zt,Zt,Zt,Zt,Zt,Zt,Zt,Zt,Zt,Zt,Zt,Zt,Zt,Zt,Zt,Zt,Zt,Zt,Zt,Zt,Zf,Zf,Zf,Zf,Zf,Zf,Zf,Zf,Zf,Zf,Zf,Zf,Zf,Zf,Zf] rfl rfl (Xk HT_.out (by kernel_rfl)) (fun _ _ _ h => h) (Or.inr ⟨by rfl, rfl⟩) ?_ ?_
   rotate_left
   ·simp only [Act.put, Xa, Xb, Xc, Xh, Xi]
    rfl
   refine Xm (i := 21) (N := some 32) (v := undef) (a' := ?_) #[Zt,Zt,Zt,Zt,Zt,Zt,Zt,Zt,Zt,Zt,Zt,Zt,Zt,Zt,Zt,Zt,Zt,Zt,Zt,Zt,Zt,Zt,Zf,Zf,Zf,Zf,Zf,Zf,Zf,Zf,Zf,Zf,Zf,Zf,Zf,Zf] rfl rfl (Xk HT_.out (by kernel_rfl)) (fun _ _ _ h => h) (Or.inr ⟨by rfl, rfl⟩) ?_ ?_
   rotate_left
   ·simp only [Act.put, Xa, Xb, Xc, Xh, Xi]
    rfl
   refine Xm (i := 22) (N := some 33) (v := undef) (a' := ?_) #[Zt,Zt,Zt,Zt,Zt,Zt,Zt,Zt,Zt,Zt,Zt,Zt,Zt,Zt,Zt,Zt,Zt,Zt,Zt,Zt,Zt,Zt,Zt,Zf,Zf,Zf,Zf,Zf,Zf,Zf,Zf,Zf,Zf,Zf,Zf,Zf] rfl rfl (Xk HT_.out (by kernel_rfl)) (fun _ _ _ h => h) (Or.inr ⟨by rfl, rfl⟩) ?_ ?_
   rotate_left
   ·simp only [Act.put, Xa, Xb, Xc, Xh, Xi]
    rfl
   refine Xm (i := 23) (N := some 34) (v := ?_) (a' := ?_) #[Zt,Zt,Zt,Zt,Zt,Zt,Zt,Zt,Zt,Zt,Zt,Zt,Zt,Zt,Zt,Zt,Zt,Zt,Zt,Zt,Zt,Zt,Zt,Zt,Zf,Zf,Zf,Zf,Zf,Zf,Zf,Zf,Zf,Zf,Zf,Zf] rfl rfl (Xk HT_.out (by kernel_rfl)) (fun _ _ _ h => h) (Or.inl ⟨by rfl, ?_⟩) ?_ ?_
   rotate_left
   ·intro w'
    go_simp
    with_reducible rfl
   rotate_left
   ·simp only [Act.put, Xa, Xb, Xc, Xh, Xi]
    rfl
   refine Xm (i := 24) (N := some 35) (v := ?_) (a' := ?_) #[Zt,Zt,Zt,Zt,Zt,Zt,Zt,Zt,Zt,Zt,Zt,Zt,Zt,Zt,Zt,Zt,Zt,Zt,Zt,Zt,Zt,Zt,Zt,Zt,Zt,Zf,Zf,Zf,Zf,Zf,Zf,Zf,Zf,Zf,Zf,Zf] rfl rfl (Xk HT_.out (by kernel_rfl)) (fun _ _ _ h => h) (Or.inl ⟨by rfl, ?_⟩) ?_ ?_
   rotate_left
   ·intro w'
    go_simp
    with_reducible rfl
   rotate_left
   ·simp only [Act.put, Xa, Xb, Xc, Xh, Xi]
    rfl
   refine Xm (i := 25) (N := some 36) (v := undef) (a' := ?_) #[Zt,Zt,Zt,Zt,Zt,Zt,Zt,Zt,Zt,Zt,Zt,Zt,Zt,Zt,Zt,Zt,Zt,Zt,Zt,Zt,Zt,Zt,Zt,Zt,Zt,Zt,Zf,Zf,Zf,Zf,Zf,Zf,Zf,Zf,Zf,Zf] rfl rfl (Xk HT_.out (by kernel_rfl)) (fun _ _ _ h => h) (Or.inr ⟨by rfl, rfl⟩) ?_ ?_
   rotate_left
   ·simp only [Act.put, Xa, Xb, Xc, Xh, Xi]
    rfl
   refine Xm (i := 26) (N := some 37) (v := undef) (a' := ?_) #[Zt,Zt,Zt,Zt,Zt,Zt,Zt,Zt,Zt,Zt,Zt,Zt,Zt,Zt,Zt,Zt,Zt,Zt,Zt,Zt,Zt,Zt,Zt,Zt,Zt,Zt,Zt,Zf,Zf,Zf,Zf,Zf,Zf,Zf,Zf,Zf] rfl rfl (Xk HT_.out (by kernel_rfl)) (fun _ _ _ h => h) (Or.inr ⟨by rfl, rfl⟩) ?_ ?_
   rotate_left
   ·simp only [Act.put, Xa, Xb, Xc, Xh, Xi]
    rfl
   refine Xm (i := 27) (N := some 38) (v := undef) (a' := ?_) #[Zt,Zt,Zt,Zt,Zt,Zt,Zt,Zt,Zt,Zt,Zt,Zt,Zt,Zt,Zt,Zt,Zt,Zt,Zt,Zt,Zt,Zt,Zt,Zt,Zt,Zt,Zt,Zt,Zf,Zf,Zf,Zf,Zf,Zf,Zf,Zf] rfl rfl (Xk HT_.out (by kernel_rfl)) (fun _ _ _ h => h) (Or.inr ⟨by rfl, rfl⟩) ?_ ?_
   rotate_left
   ·simp only [Act.put, Xa, Xb, Xc, Xh, Xi]
    rfl
   refine Xm (i := 28) (N := some 39) (v := undef) (a' := ?_) #[Zt,Zt,Zt,Zt,Zt,Zt,Zt,Zt,Zt,Zt,Zt,Zt,Zt,Zt,Zt,Zt,Zt,Zt,Zt,Zt,Zt,Zt,Zt,Zt,Zt,Zt,Zt,Zt,Zt,Zf,Zf,Zf,Zf,Zf,Zf,Zf] rfl rfl (Xk HT_.out (by kernel_rfl)) (fun _ _ _ h => h) (Or.inr ⟨by rfl, rfl⟩) ?_ ?_
   rotate_left
   ·simp only [Act.put, Xa, Xb, Xc, Xh, Xi]
    rfl
   refine Xm (i := 29) (N := some 40) (v := undef) (a' := ?_) #[Zt,Zt,Zt,Zt,Zt,Zt,Zt,Zt,Zt,Zt,Zt,Zt,Zt,Zt,Zt,Zt,Zt,Zt,Zt,Zt,Zt,Zt,Zt,Zt,Zt,Zt,Zt,Zt,Zt,Zt,Zf,Zf,Zf,Zf,Zf,Zf] rfl rfl (Xk HT_.out (by kernel_rfl)) (fun _ _ _ h => h) (Or.inr ⟨by rfl, rfl⟩) ?_ ?_
   rotate_left
   ·simp only [Act.put, Xa, Xb, Xc, Xh, Xi]
    rfl
   refine Xm (i := 30) (N := some 41) (v := undef) (a' := ?_) #[Zt,Zt,Zt,Zt,Zt,Zt,Zt,Zt,Zt,Zt,Zt,Zt,Zt,Zt,Zt,Zt,Zt,Zt,Zt,Zt,Zt,Zt,Zt,Zt,Zt,Zt,Zt,Zt,Zt,Zt,Zt,Zf,Zf,Zf,Zf,Zf] rfl rfl (Xk HT_.out (by kernel_rfl)) (fun _ _ _ h => h) (Or.inr ⟨by rfl, rfl⟩) ?_ ?_
   rotate_left
   ·simp only [Act.put, Xa, Xb, Xc, Xh, Xi]
    rfl
   refine Xm (i := 31) (N := some 42) (v := undef) (a' := ?_) #[Zt,Zt,Zt,Zt,Zt,Zt,Zt,Zt,Zt,Zt,Zt,Zt,Zt,Zt,Zt,Zt,Zt,Zt,Zt,Zt,Zt,Zt,Zt,Zt,Zt,Zt,Zt,Zt,Zt,Zt,Zt,Zt,Zf,Zf,Zf,Zf] rfl rfl (Xk HT_.out (by kernel_rfl)) (fun _ _ _ h => h) (Or.inr ⟨by rfl, rfl⟩) ?_ ?_
   rotate_left
   ·simp only [Act.put, Xa, Xb, Xc, Xh, Xi]
    rfl
   refine Xm (i := 32) (N := some 43) (v := undef) (a' := ?_) #[Zt,Zt,Zt,Zt,Zt,Zt,Zt,Zt,Zt,Zt,Zt,Zt,Zt,Zt,Zt,Zt,Zt,Zt,Zt,Zt,Zt,Zt,Zt,Zt,Zt,Zt,Zt,Zt,Zt,Zt,Zt,Zt,Zt,Zf,Zf,Zf] rfl rfl (Xk HT_.out (by kernel_rfl)) (fun _ _ _ h => h) (Or.inr ⟨by rfl, rfl⟩) ?_ ?_
   rotate_left
   ·simp only [Act.put, Xa, Xb, Xc, Xh, Xi]
    rfl
   refine Xm (i := 33) (N := some 44) (v := undef) (a' := ?_) #[Zt,Zt,Zt,Zt,Zt,Zt,Zt,Zt,Zt,Zt,Zt,Zt,Zt,Zt,Zt,Zt,Zt,Zt,Zt,Zt,Zt,Zt,Zt,Zt,Zt,Zt,Zt,Zt,Zt,Zt,Zt,Zt,Zt,Zt,Zf,Zf] rfl rfl (Xk HT_.out (by kernel_rfl)) (fun _ _ _ h => h) (Or.inr ⟨by rfl, rfl⟩) ?_ ?_
   rotate_left
   ·simp only [Act.put, Xa, Xb, Xc, Xh, Xi]
    rfl
   refine Xm (i := 34) (N := some 45) (v := ?_) (a' := ?_) #[Zt,Zt,Zt,Zt,Zt,Zt,Zt,Zt,Zt,Zt,Zt,Zt,Zt,Zt,Zt,Zt,Zt,Zt,Zt,Zt,Zt,Zt,Zt,Zt,Zt,Zt,Zt,Zt,Zt,Zt,Zt,Zt,Zt,Zt,Zt,Zf] rfl rfl (Xk HT_.out (by kernel_rfl)) (fun _ _ _ h => h) (Or.inl ⟨by rfl, ?_⟩) ?_ ?_
   rotate_left
   ·intro w'
    go_simp
    with_reducible rfl
   rotate_left
   ·simp only [Act.put, Xa, Xb, Xc, Xh, Xi]
    rfl
   refine Xm (i := 35) (N := some 4) (v := ?_) (a' := ?_) #[Zt,Zt,Zt,Zt,Zt,Zt,Zt,Zt,Zt,Zt,Zt,Zt,Zt,Zt,Zt,Zt,Zt,Zt,Zt,Zt,Zt,Zt,Zt,Zt,Zt,Zt,Zt,Zt,Zt,Zt,Zt,Zt,Zt,Zt,Zt,Zt] rfl rfl (Xk HT_.out (by kernel_rfl)) (fun _ _ _ h => h) (Or.inl ⟨by rfl, ?_⟩) ?_ ?_
   rotate_left
   ·intro w'
    go_simp
    with_reducible rfl
   rotate_left
   ·simp only [Act.put, Xa, Xb, Xc, Xh, Xi]
    rfl
   refine done_ (done_of HT_.out (by kernel_rfl)) ?_
   try go_wp2
   go_ret
   exact ⟨by first | rfl | (simp [errW_none, errW_some] <;> rfl) | (simp [*, errW_none, errW_some] <;> rfl), by repeat (first | (with_reducible first | exact HB.out | apply below_alloc | apply pw_below_drewN | apply below_drew1 | refine below_set ?_ GE299.out | refine below_set ?_ GE300.out | refine below_set ?_ GE309.out) | exact HB.out)⟩
 ·replace c4 := Bool.eq_false_iff.mpr c4
  subst c4
  have H1 : (some Zf) = some r := by rw [if_neg (show ¬ (Zf = Zt) by decide)] at H; exact H
  clear H
  have H := H1
  clear H1
  obtain rfl := Option.some.inj H
  go_enter Try.func6, Try.ntmps6
  go_wp2_with (first | ((with_reducible refine gate_dst (N := 2) rfl ?_); refine box_event ?hg (N := 2) ?hd (cs := #[.int .i64 a0_0, .int .i64 a0_1, .int .i64 a0_2, .int .i64 a0_3, .int .i64 a0_4, .int .i64 a0_5, .int .i64 a0_6]) (t := 55) ?hr ?_; (case hd => rfl); (case hg => rfl); (case hr => first | (go_simp; done) | (go_simp; rfl)); intro gb299 hg w79 hbox hb; have n0_ := Za (Xo (hb_11 HB.out) hb); have n1_ := Za (hbox); have n2_ := Za ((by rw [hg]; exact (Xp (hb_11 HB.out)) : w.heap.size ≤ gb299)); have n3_ := Za ((by rw [hg]; exact (Xp (hb_11 HB.out)) : w.heap.size ≤ gb299)); clear HB; have HB := n0_; have BK299 := n1_; have GW299 := n2_; have GE299 := n3_; clear n0_ n1_ n2_ n3_; clear hb hbox hg) | ((with_reducible refine gate_dst (N := 3) rfl ?_); refine box_event ?hg (N := 3) ?hd (cs := #[.int .i64 a1_0, .int .i64 a1_1, .int .i64 a1_2]) (t := 32) ?hr ?_; (case hd => rfl); (case hg => rfl); (case hr => first | (go_simp; done) | (go_simp; rfl)); intro gb300 hg w80 hbox hb; have n0_ := Za (Xl (g := gb299) (o := .cells #[.int .i64 a0_0, .int .i64 a0_1, .int .i64 a0_2, .int .i64 a0_3, .int .i64 a0_4, .int .i64 a0_5, .int .i64 a0_6] 55 (0, 0)) (bb_11 BK299.out) hb); have n1_ := Za (Xo (hb_11 HB.out) hb); have n2_ := Za (hbox); have n3_ := Za ((by rw [hg]; exact (Xp (hb_11 HB.out)) : w.heap.size ≤ gb300)); have n4_ := Za ((by rw [hg]; exact (Xp (hb_11 HB.out)) : w.heap.size ≤ gb300)); have n5_ := Za ((by rw [hg]; exact Nat.ne_of_lt (blk_lt (g := gb299) (o := .cells #[.int .i64 a0_0, .int .i64 a0_1, .int .i64 a0_2, .int .i64 a0_3, .int .i64 a0_4, .int .i64 a0_5, .int .i64 a0_6] 55 (0, 0)) (bb_11 BK299.out)) : gb299 ≠ gb300)); have n6_ := Za ((by rw [hg]; exact Nat.ne_of_gt (blk_lt (g := gb299) (o := .cells #[.int .i64 a0_0, .int .i64 a0_1, .int .i64 a0_2, .int .i64 a0_3, .int .i64 a0_4, .int .i64 a0_5, .int .i64 a0_6] 55 (0, 0)) (bb_11 BK299.out)) : gb300 ≠ gb299)); clear BK299; clear HB; have BK299 := n0_; have HB := n1_; have BK300 := n2_; have GW300 := n3_; have GE300 := n4_; have NB299_300 := n5_; have NB300_299 := n6_; clear n0_ n1_ n2_ n3_ n4_ n5_ n6_; clear hb hbox hg) | ((with_reducible refine gate_callee (f := 36) rfl ?_); refine goesL_ (some 6) rfl rfl Try.func36 (by kernel_rfl) rfl #[] rfl (by (try simp only [List.map_toArray, List.map_cons, List.map_nil]); first | done | rfl | (simp only [List.length_drop, List.length_take]; rfl)) ?_; (with_reducible refine (gatherumlaw38_alive.calls k  Zf _ A3.out).mono ?_); rintro e w81 ⟨rfl, hb⟩; refine ⟨_, rfl, ?_⟩; have n0_ := Za (Xl (g := gb299) (o := .cells #[.int .i64 a0_0, .int .i64 a0_1, .int .i64 a0_2, .int .i64 a0_3, .int .i64 a0_4, .int .i64 a0_5, .int .i64 a0_6] 55 (0, 0)) (bb_11 BK299.out) hb); have n1_ := Za (Xl (g := gb300) (o := .cells #[.int .i64 a1_0, .int .i64 a1_1, .int .i64 a1_2] 32 (0, 0)) (bb_11 BK300.out) hb); have n2_ := Za (Xo (hb_11 HB.out) hb); clear BK299; clear BK300; clear HB; have BK299 := n0_; have BK300 := n1_; have HB := n2_; clear n0_ n1_ n2_; (try clear hb); (try clear hb2); (try clear hk); (try clear hi)))
  go_ret
  exact ⟨by first | rfl | (simp [errW_none, errW_some] <;> rfl) | (simp [*, errW_none, errW_some] <;> rfl), by repeat (first | (with_reducible first | exact HB.out | apply below_alloc | apply pw_below_drewN | apply below_drew1 | refine below_set ?_ GE299.out | refine below_set ?_ GE300.out) | exact HB.out)⟩

end Go.Proofs.Ythgmjhidigoneaa.PLayerLies
