import Derived.Test.YthgmjhidigoneaaPLayerKeepsx0
import Derived.Test.YthgmjhidigoneaaPLayerKeepsx9
import Derived.Test.YthgmjhidigoneaaPLayerKeepsx10
namespace Go.Proofs.Ythgmjhidigoneaa.PLayerKeeps
open Go.RowKit Go.Proofs.YthgmjhidigoneaaW.PrintWords Go.Proofs.YthgmjhidigoneaaW.PrintLast Go.Proofs.YthgmjhidigoneaaW.PrintMore
open Bool renaming true → Zt, false → Zf
open Go.Proofs.YthgmjhidigoneaaW.PrintWords.Aside0 renaming mk → Za
open List renaming setIfInBounds_toArray → Xa, set_cons_zero → Xb, set_cons_succ → Xc
open Go.Proofs.YthgmjhidigoneaaW.PrintWords renaming blk_cell → Xd, Aside0 → Xe, cell_far → Xf, blk_drewN → Xg, blk_alloc → Xh, blk_drew → Xi, blk_lt → Xj, blk_below → Xl, below_size → Xn, blk_frozen → Xq
open Go.Proofs.YthgmjhidigoneaaW.PrintLast renaming putAll → Xk, norm_ → Xm
attribute [local go_sem] max2_int min2_int max_two min_two max_three min_three max_four min_four   -- for this text's walks alone
set_option linter.unusedVariables false
set_option linter.unusedSimpArgs false
theorem bb_11 {p q : Prop} (h : q) (f : q → p := by intro h_; (with_reducible repeat (first | refine blk_drewN ?_ _ | refine blk_drew ?_ | refine blk_alloc ?_ _)); exact h_) : p := f h
theorem hb_11 {B : Nat} {w W W1 : World} (h : Below B w W) (f : Below B w W → Below B w W1 := by intro h_; repeat (first | (with_reducible first | exact h_ | apply below_alloc | apply pw_below_drewN | apply below_drew1 | refine below_set ?_ (Aside0.out (by assumption))) | exact h_)) : Below B w W1 := f h

/-! ### gatherumref04_Meet: function 46 -/
def gatherumref04_Meet.f (a0_0 : Int) (a0_1 : Int) (a0_2 : Int) (a0_3 : Int) (a1_0 : Int) (a1_1 : Int) (a1_2 : Int) (a1_3 : Int) : Option (Int × Int × Int × Int) := (gatherumref04_high.f a0_0 a1_0).bind fun t280 => ((gatherumref04_high.f a0_1 a1_1).bind fun t281 => ((gatherumref04_low.f a0_2 a1_2).bind fun t282 => ((gatherumref04_low.f a0_3 a1_3).bind fun t283 => ((gatherumref04_Empty.f t280 t281 t282 t283).bind fun t285 => (if t285 = Zt then (some (0, 0, 0, 0)) else (some (t280, t281, t282, t283)))))))
def gatherumref04_Meet.T1 : Bool × List (List Nat × List Nat) := (Zt, [([], []), ([0], [0]), ([], []), ([2], [2]), ([1, 3], [1, 3]), ([], []), ([5], [5]), ([], []), ([7], [7]), ([6, 8, 4], [6, 8]), ([], []), ([10], [10]), ([], []), ([12], [12]), ([11, 13, 9], [11, 13]), ([], []), ([15], [15]), ([], []), ([17], [17]), ([16, 18, 14], [16, 18]), ([4, 9, 14, 19], [4, 9, 14, 19]), ([], []), ([21, 20, 19, 0, 1, 2, 3, 4, 5, 6, 7, 8, 9, 10, 11, 12, 13, 14, 15, 16, 17, 18, 19, 20, 21], [20, 21])])
def gatherumref04_Meet.B1 : List Nat := [0, 1, 0, 4, 15, 0, 32, 0, 128, 511, 0, 1024, 0, 4096, 16383, 0, 32768, 0, 131072, 524287, 1048575, 0, 4194303]
theorem gatherumref04_Meet.tab1 : rtab .any (opsOf Try.f46 1) = gatherumref04_Meet.T1 := by kernel_rfl
theorem gatherumref04_Meet.bits1 : waitsOk gatherumref04_Meet.T1.2 gatherumref04_Meet.B1 = Zt := by kernel_rfl
set_option maxHeartbeats 8000000 in
set_option maxRecDepth 100000 in
theorem gatherumref04_Meet.calls (a0_0 : Int) (a0_1 : Int) (a0_2 : Int) (a0_3 : Int) (a1_0 : Int) (a1_1 : Int) (a1_2 : Int) (a1_3 : Int) (r1 : Int) (r2 : Int) (r3 : Int) (r4 : Int) (w : World) (h : gatherumref04_Meet.f a0_0 a0_1 a0_2 a0_3 a1_0 a1_1 a1_2 a1_3 = some (r1, r2, r3, r4)) :
  Calls Try.prog 46 #[.agg #[.int .i64 a0_0, .int .i64 a0_1, .int .i64 a0_2, .int .i64 a0_3], .agg #[.int .i64 a1_0, .int .i64 a1_1, .int .i64 a1_2, .int .i64 a1_3]] w fun e w' => e = .returned (.agg #[.int .i64 r1, .int .i64 r2, .int .i64 r3, .int .i64 r4]) ∧ Below w.heap.size w w' := by
 have hu37 := Try.underlying37
 have HB := Za (Below.refl w.heap.size w)
 have H : ((gatherumref04_high.f a0_0 a1_0).bind fun t280 => ((gatherumref04_high.f a0_1 a1_1).bind fun t281 => ((gatherumref04_low.f a0_2 a1_2).bind fun t282 => ((gatherumref04_low.f a0_3 a1_3).bind fun t283 => ((gatherumref04_Empty.f t280 t281 t282 t283).bind fun t285 => (if t285 = Zt then (some (0, 0, 0, 0)) else (some (t280, t281, t282, t283)))))))) = some (r1, r2, r3, r4) := h
 clear h
 replace H := Option.bind_eq_some_iff.mp H
 obtain ⟨t280, A30, H⟩ := H
 replace H : ((gatherumref04_high.f a0_1 a1_1).bind fun t281 => ((gatherumref04_low.f a0_2 a1_2).bind fun t282 => ((gatherumref04_low.f a0_3 a1_3).bind fun t283 => ((gatherumref04_Empty.f t280 t281 t282 t283).bind fun t285 => (if t285 = Zt then (some (0, 0, 0, 0)) else (some (t280, t281, t282, t283))))))) = some (r1, r2, r3, r4) := H
 have A3 := Za A30
 clear A30
 replace H := Option.bind_eq_some_iff.mp H
 obtain ⟨t281, A40, H⟩ := H
 replace H : ((gatherumref04_low.f a0_2 a1_2).bind fun t282 => ((gatherumref04_low.f a0_3 a1_3).bind fun t283 => ((gatherumref04_Empty.f t280 t281 t282 t283).bind fun t285 => (if t285 = Zt then (some (0, 0, 0, 0)) else (some (t280, t281, t282, t283)))))) = some (r1, r2, r3, r4) := H
 have A4 := Za A40
 clear A40
 replace H := Option.bind_eq_some_iff.mp H
 obtain ⟨t282, A50, H⟩ := H
 replace H : ((gatherumref04_low.f a0_3 a1_3).bind fun t283 => ((gatherumref04_Empty.f t280 t281 t282 t283).bind fun t285 => (if t285 = Zt then (some (0, 0, 0, 0)) else (some (t280, t281, t282, t283))))) = some (r1, r2, r3, r4) := H
 have A5 := Za A50
 clear A50
 replace H := Option.bind_eq_some_iff.mp H
 obtain ⟨t283, A60, H⟩ := H
 replace H : ((gatherumref04_Empty.f t280 t281 t282 t283).bind fun t285 => (if t285 = Zt then (some (0, 0, 0, 0)) else (some (t280, t281, t282, t283)))) = some (r1, r2, r3, r4) := H
 have A6 := Za A60
 clear A60
 replace H := Option.bind_eq_some_iff.mp H
 obtain ⟨t285, A70, H⟩ := H
 replace H : (if t285 = Zt then (some (0, 0, 0, 0)) else (some (t280, t281, t282, t283))) = some (r1, r2, r3, r4) := H
 have A7 := Za A70
 clear A70
 by_cases c8 : t285 = Zt
 ·subst c8
  have H1 : (some (0, 0, 0, 0)) = some (r1, r2, r3, r4) := by rw [if_pos rfl] at H; exact H
  clear H
  have H := H1
  clear H1
  simp only [Option.some.injEq, Prod.mk.injEq] at H
  obtain ⟨rfl, rfl, rfl, rfl⟩ := H
  go_enter Try.func46, Try.ntmps46
  try go_wp2_with (first | ((with_reducible refine gate_dst (N := 2) rfl ?_); refine box_event ?hg (N := 2) ?hd (cs := #[.int .i64 a0_0, .int .i64 a0_1, .int .i64 a0_2, .int .i64 a0_3]) (t := 37) ?hr ?_; (case hd => rfl); (case hg => rfl); (case hr => first | (go_simp; done) | (go_simp; rfl)); intro gb277 hg w9 hbox hb; have n0_ := Za (below_step (hb_11 HB.out) hb); have n1_ := Za (hbox); have n2_ := Za ((by rw [hg]; exact (Xn (hb_11 HB.out)) : w.heap.size ≤ gb277)); have n3_ := Za ((by rw [hg]; exact (Xn (hb_11 HB.out)) : w.heap.size ≤ gb277)); clear HB; have HB := n0_; have BK277 := n1_; have GW277 := n2_; have GE277 := n3_; clear n0_ n1_ n2_ n3_; clear hb hbox hg) | ((with_reducible refine gate_dst (N := 3) rfl ?_); refine box_event ?hg (N := 3) ?hd (cs := #[.int .i64 a1_0, .int .i64 a1_1, .int .i64 a1_2, .int .i64 a1_3]) (t := 37) ?hr ?_; (case hd => rfl); (case hg => rfl); (case hr => first | (go_simp; done) | (go_simp; rfl)); intro gb278 hg w10 hbox hb; have n0_ := Za (Xl (g := gb277) (o := .cells #[.int .i64 a0_0, .int .i64 a0_1, .int .i64 a0_2, .int .i64 a0_3] 37 (0, 0)) (bb_11 BK277.out) hb); have n1_ := Za (below_step (hb_11 HB.out) hb); have n2_ := Za (hbox); have n3_ := Za ((by rw [hg]; exact (Xn (hb_11 HB.out)) : w.heap.size ≤ gb278)); have n4_ := Za ((by rw [hg]; exact (Xn (hb_11 HB.out)) : w.heap.size ≤ gb278)); have n5_ := Za ((by rw [hg]; exact Nat.ne_of_lt (Xj (g := gb277) (o := .cells #[.int .i64 a0_0, .int .i64 a0_1, .int .i64 a0_2, .int .i64 a0_3] 37 (0, 0)) (bb_11 BK277.out)) : gb277 ≠ gb278)); have n6_ := Za ((by rw [hg]; exact Nat.ne_of_gt (Xj (g := gb277) (o := .cells #[.int .i64 a0_0, .int .i64 a0_1, .int .i64 a0_2, .int .i64 a0_3] 37 (0, 0)) (bb_11 BK277.out)) : gb278 ≠ gb277)); clear BK277; clear HB; have BK277 := n0_; have HB := n1_; have BK278 := n2_; have GW278 := n3_; have GE278 := n4_; have NB277_278 := n5_; have NB278_277 := n6_; clear n0_ n1_ n2_ n3_ n4_ n5_ n6_; clear hb hbox hg) | ((with_reducible refine gate_dst (N := 4) rfl ?_); refine box_event ?hg (N := 4) ?hd (cs := #[.int .i64 0, .int .i64 0, .int .i64 0, .int .i64 0]) (t := 37) ?hr ?_; (case hd => rfl); (case hg => rfl); (case hr => first | (go_simp; done) | (go_simp; rfl)); intro gb279 hg w11 hbox hb; have n0_ := Za (Xl (g := gb277) (o := .cells #[.int .i64 a0_0, .int .i64 a0_1, .int .i64 a0_2, .int .i64 a0_3] 37 (0, 0)) (bb_11 BK277.out) hb); have n1_ := Za (Xl (g := gb278) (o := .cells #[.int .i64 a1_0, .int .i64 a1_1, .int .i64 a1_2, .int .i64 a1_3] 37 (0, 0)) (bb_11 BK278.out) hb); have n2_ := Za (below_step (hb_11 HB.out) hb); have n3_ := Za (hbox); have n4_ := Za ((by rw [hg]; exact (Xn (hb_11 HB.out)) : w.heap.size ≤ gb279)); have n5_ := Za ((by rw [hg]; exact (Xn (hb_11 HB.out)) : w.heap.size ≤ gb279)); have n6_ := Za ((by rw [hg]; exact Nat.ne_of_lt (Xj (g := gb277) (o := .cells #[.int .i64 a0_0, .int .i64 a0_1, .int .i64 a0_2, .int .i64 a0_3] 37 (0, 0)) (bb_11 BK277.out)) : gb277 ≠ gb279)); have n7_ := Za ((by rw [hg]; exact Nat.ne_of_gt (Xj (g := gb277) (o := .cells #[.int .i64 a0_0, .int .i64 a0_1, .int .i64 a0_2, .int .i64 a0_3] 37 (0, 0)) (bb_11 BK277.out)) : gb279 ≠ gb277)); have n8_ := Za ((by rw [hg]; exact Nat.ne_of_lt (Xj (g := gb278) (o := .cells #[.int .i64 a1_0, .int .i64 a1_1, .int .i64 a1_2, .int .i64 a1_3] 37 (0, 0)) (bb_11 BK278.out)) : gb278 ≠ gb279)); have n9_ := Za ((by rw [hg]; exact Nat.ne_of_gt (Xj (g := gb278) (o := .cells #[.int .i64 a1_0, .int .i64 a1_1, .int .i64 a1_2, .int .i64 a1_3] 37 (0, 0)) (bb_11 BK278.out)) : gb279 ≠ gb278)); clear BK277; clear BK278; clear HB; have BK277 := n0_; have BK278 := n1_; have HB := n2_; have BK279 := n3_; have GW279 := n4_; have GE279 := n5_; have NB277_279 := n6_; have NB279_277 := n7_; have NB278_279 := n8_; have NB279_278 := n9_; clear n0_ n1_ n2_ n3_ n4_ n5_ n6_ n7_ n8_ n9_; clear hb hbox hg))
  have n0_ := Za (Xi BK277.out)
  have n1_ := Za (Xi BK278.out)
  have n2_ := Za (Xi BK279.out)
  have n3_ := Za (below_drew1 HB.out)
  clear BK277
  clear BK278
  clear BK279
  clear HB
  have BK277 := n0_
  have BK278 := n1_
  have BK279 := n2_
  have HB := n3_
  clear n0_ n1_ n2_ n3_
  refine start_ (n := 23) (S := fun w' => w'.cell? ⟨gb277, 0, none⟩ = some (.int .i64 a0_0) ∧ w'.cell? ⟨gb277, 1, none⟩ = some (.int .i64 a0_1) ∧ w'.cell? ⟨gb277, 2, none⟩ = some (.int .i64 a0_2) ∧ w'.cell? ⟨gb277, 3, none⟩ = some (.int .i64 a0_3) ∧ w'.cell? ⟨gb278, 0, none⟩ = some (.int .i64 a1_0) ∧ w'.cell? ⟨gb278, 1, none⟩ = some (.int .i64 a1_1) ∧ w'.cell? ⟨gb278, 2, none⟩ = some (.int .i64 a1_2) ∧ w'.cell? ⟨gb278, 3, none⟩ = some (.int .i64 a1_3)) (ds := []) #[Zf,Zf,Zf,Zf,Zf,Zf,Zf,Zf,Zf,Zf,Zf,Zf,Zf,Zf,Zf,Zf,Zf,Zf,Zf,Zf,Zf,Zf,Zf] (by kernel_rfl) rfl rfl ⟨(Xd BK277.out 0).trans rfl, (Xd BK277.out 1).trans rfl, (Xd BK277.out 2).trans rfl, (Xd BK277.out 3).trans rfl, (Xd BK278.out 0).trans rfl, (Xd BK278.out 1).trans rfl, (Xd BK278.out 2).trans rfl, (Xd BK278.out 3).trans rfl⟩ (fun hHeld => ?_); refine with_tabW gatherumref04_Meet.tab1 gatherumref04_Meet.bits1 (fun HT_ HW_ => ?_)
  generalize w11.drew = w12 at BK277 BK278 BK279 HB hHeld ⊢
  refine pure_ (i := 0) (N := some 6) (v := ?_) (a' := ?_) #[Zt,Zf,Zf,Zf,Zf,Zf,Zf,Zf,Zf,Zf,Zf,Zf,Zf,Zf,Zf,Zf,Zf,Zf,Zf,Zf,Zf,Zf,Zf] rfl rfl (any_of HT_.out (by kernel_rfl)) (fun _ _ _ h => h) (Or.inl ⟨by rfl, ?_⟩) ?_ ?_
  rotate_left
  ·intro w'
   go_simp
   with_reducible rfl
  rotate_left
  ·simp only [Act.put, Xa, Xb, Xc, i64_w, i32_w]
   rfl
  refine pure_ (i := 2) (N := some 8) (v := ?_) (a' := ?_) #[Zt,Zf,Zt,Zf,Zf,Zf,Zf,Zf,Zf,Zf,Zf,Zf,Zf,Zf,Zf,Zf,Zf,Zf,Zf,Zf,Zf,Zf,Zf] rfl rfl (any_of HT_.out (by kernel_rfl)) (fun _ _ _ h => h) (Or.inl ⟨by rfl, ?_⟩) ?_ ?_
  rotate_left
  ·intro w'
   go_simp
   with_reducible rfl
  rotate_left
  ·simp only [Act.put, Xa, Xb, Xc, i64_w, i32_w]
   rfl
  refine pure_ (i := 5) (N := some 11) (v := ?_) (a' := ?_) #[Zt,Zf,Zt,Zf,Zf,Zt,Zf,Zf,Zf,Zf,Zf,Zf,Zf,Zf,Zf,Zf,Zf,Zf,Zf,Zf,Zf,Zf,Zf] rfl rfl (any_of HT_.out (by kernel_rfl)) (fun _ _ _ h => h) (Or.inl ⟨by rfl, ?_⟩) ?_ ?_
  rotate_left
  ·intro w'
   go_simp
   with_reducible rfl
  rotate_left
  ·simp only [Act.put, Xa, Xb, Xc, i64_w, i32_w]
   rfl
  refine pure_ (i := 7) (N := some 13) (v := ?_) (a' := ?_) #[Zt,Zf,Zt,Zf,Zf,Zt,Zf,Zt,Zf,Zf,Zf,Zf,Zf,Zf,Zf,Zf,Zf,Zf,Zf,Zf,Zf,Zf,Zf] rfl rfl (any_of HT_.out (by kernel_rfl)) (fun _ _ _ h => h) (Or.inl ⟨by rfl, ?_⟩) ?_ ?_
  rotate_left
  ·intro w'
   go_simp
   with_reducible rfl
  rotate_left
  ·simp only [Act.put, Xa, Xb, Xc, i64_w, i32_w]
   rfl
  refine pure_ (i := 10) (N := some 16) (v := ?_) (a' := ?_) #[Zt,Zf,Zt,Zf,Zf,Zt,Zf,Zt,Zf,Zf,Zt,Zf,Zf,Zf,Zf,Zf,Zf,Zf,Zf,Zf,Zf,Zf,Zf] rfl rfl (any_of HT_.out (by kernel_rfl)) (fun _ _ _ h => h) (Or.inl ⟨by rfl, ?_⟩) ?_ ?_
  rotate_left
  ·intro w'
   go_simp
   with_reducible rfl
  rotate_left
  ·simp only [Act.put, Xa, Xb, Xc, i64_w, i32_w]
   rfl
  refine pure_ (i := 12) (N := some 18) (v := ?_) (a' := ?_) #[Zt,Zf,Zt,Zf,Zf,Zt,Zf,Zt,Zf,Zf,Zt,Zf,Zt,Zf,Zf,Zf,Zf,Zf,Zf,Zf,Zf,Zf,Zf] rfl rfl (any_of HT_.out (by kernel_rfl)) (fun _ _ _ h => h) (Or.inl ⟨by rfl, ?_⟩) ?_ ?_
  rotate_left
  ·intro w'
   go_simp
   with_reducible rfl
  rotate_left
  ·simp only [Act.put, Xa, Xb, Xc, i64_w, i32_w]
   rfl
  refine pure_ (i := 15) (N := some 21) (v := ?_) (a' := ?_) #[Zt,Zf,Zt,Zf,Zf,Zt,Zf,Zt,Zf,Zf,Zt,Zf,Zt,Zf,Zf,Zt,Zf,Zf,Zf,Zf,Zf,Zf,Zf] rfl rfl (any_of HT_.out (by kernel_rfl)) (fun _ _ _ h => h) (Or.inl ⟨by rfl, ?_⟩) ?_ ?_
  rotate_left
  ·intro w'
   go_simp
   with_reducible rfl
  rotate_left
  ·simp only [Act.put, Xa, Xb, Xc, i64_w, i32_w]
   rfl
  refine pure_ (i := 17) (N := some 23) (v := ?_) (a' := ?_) #[Zt,Zf,Zt,Zf,Zf,Zt,Zf,Zt,Zf,Zf,Zt,Zf,Zt,Zf,Zf,Zt,Zf,Zt,Zf,Zf,Zf,Zf,Zf] rfl rfl (any_of HT_.out (by kernel_rfl)) (fun _ _ _ h => h) (Or.inl ⟨by rfl, ?_⟩) ?_ ?_
  rotate_left
  ·intro w'
   go_simp
   with_reducible rfl
  rotate_left
  ·simp only [Act.put, Xa, Xb, Xc, i64_w, i32_w]
   rfl
  refine take_ (i := 1) (N := some 7) (v := ?_) (a' := ?_) #[Zt,Zt,Zt,Zf,Zf,Zt,Zf,Zt,Zf,Zf,Zt,Zf,Zt,Zf,Zf,Zt,Zf,Zt,Zf,Zf,Zf,Zf,Zf] rfl rfl (take_ofW HT_.out HW_.out (by kernel_rfl)) (fun _ _ _ h => h) (Or.inl ⟨by rfl, ?_⟩) hHeld ?_ ?_
  rotate_left
  ·rintro w' ⟨s0, s1, s2, s3, s4, s5, s6, s7⟩
   go_simp
   with_reducible rfl
  rotate_left
  ·simp only [Act.put, Xa, Xb, Xc, i64_w, i32_w]
   rfl
  refine take_ (i := 3) (N := some 9) (v := ?_) (a' := ?_) #[Zt,Zt,Zt,Zt,Zf,Zt,Zf,Zt,Zf,Zf,Zt,Zf,Zt,Zf,Zf,Zt,Zf,Zt,Zf,Zf,Zf,Zf,Zf] rfl rfl (take_ofW HT_.out HW_.out (by kernel_rfl)) (fun _ _ _ h => h) (Or.inl ⟨by rfl, ?_⟩) hHeld ?_ ?_
  rotate_left
  ·rintro w' ⟨s0, s1, s2, s3, s4, s5, s6, s7⟩
   go_simp
   with_reducible rfl
  rotate_left
  ·simp only [Act.put, Xa, Xb, Xc, i64_w, i32_w]
   rfl
  refine take_ (i := 6) (N := some 12) (v := ?_) (a' := ?_) #[Zt,Zt,Zt,Zt,Zf,Zt,Zt,Zt,Zf,Zf,Zt,Zf,Zt,Zf,Zf,Zt,Zf,Zt,Zf,Zf,Zf,Zf,Zf] rfl rfl (take_ofW HT_.out HW_.out (by kernel_rfl)) (fun _ _ _ h => h) (Or.inl ⟨by rfl, ?_⟩) hHeld ?_ ?_
  rotate_left
  ·rintro w' ⟨s0, s1, s2, s3, s4, s5, s6, s7⟩
   go_simp
   with_reducible rfl
  rotate_left
  ·simp only [Act.put, Xa, Xb, Xc, i64_w, i32_w]
   rfl
  refine take_ (i := 8) (N := some 14) (v := ?_) (a' := ?_) #[Zt,Zt,Zt,Zt,Zf,Zt,Zt,Zt,Zt,Zf,Zt,Zf,Zt,Zf,Zf,Zt,Zf,Zt,Zf,Zf,Zf,Zf,Zf] rfl rfl (take_ofW HT_.out HW_.out (by kernel_rfl)) (fun _ _ _ h => h) (Or.inl ⟨by rfl, ?_⟩) hHeld ?_ ?_
  rotate_left
  ·rintro w' ⟨s0, s1, s2, s3, s4, s5, s6, s7⟩
   go_simp
   with_reducible rfl
  rotate_left
  ·simp only [Act.put, Xa, Xb, Xc, i64_w, i32_w]
   rfl
  refine take_ (i := 11) (N := some 17) (v := ?_) (a' := ?_) #[Zt,Zt,Zt,Zt,Zf,Zt,Zt,Zt,Zt,Zf,Zt,Zt,Zt,Zf,Zf,Zt,Zf,Zt,Zf,Zf,Zf,Zf,Zf] rfl rfl (take_ofW HT_.out HW_.out (by kernel_rfl)) (fun _ _ _ h => h) (Or.inl ⟨by rfl, ?_⟩) hHeld ?_ ?_
  rotate_left
  ·rintro w' ⟨s0, s1, s2, s3, s4, s5, s6, s7⟩
   go_simp
   with_reducible rfl
  rotate_left
  ·simp only [Act.put, Xa, Xb, Xc, i64_w, i32_w]
   rfl
  refine take_ (i := 13) (N := some 19) (v := ?_) (a' := ?_) #[Zt,Zt,Zt,Zt,Zf,Zt,Zt,Zt,Zt,Zf,Zt,Zt,Zt,Zt,Zf,Zt,Zf,Zt,Zf,Zf,Zf,Zf,Zf] rfl rfl (take_ofW HT_.out HW_.out (by kernel_rfl)) (fun _ _ _ h => h) (Or.inl ⟨by rfl, ?_⟩) hHeld ?_ ?_
  rotate_left
  ·rintro w' ⟨s0, s1, s2, s3, s4, s5, s6, s7⟩
   go_simp
   with_reducible rfl
  rotate_left
  ·simp only [Act.put, Xa, Xb, Xc, i64_w, i32_w]
   rfl
  refine take_ (i := 16) (N := some 22) (v := ?_) (a' := ?_) #[Zt,Zt,Zt,Zt,Zf,Zt,Zt,Zt,Zt,Zf,Zt,Zt,Zt,Zt,Zf,Zt,Zt,Zt,Zf,Zf,Zf,Zf,Zf] rfl rfl (take_ofW HT_.out HW_.out (by kernel_rfl)) (fun _ _ _ h => h) (Or.inl ⟨by rfl, ?_⟩) hHeld ?_ ?_
  rotate_left
  ·rintro w' ⟨s0, s1, s2, s3, s4, s5, s6, s7⟩
   go_simp
   with_reducible rfl
  rotate_left
  ·simp only [Act.put, Xa, Xb, Xc, i64_w, i32_w]
   rfl
  refine take_ (i := 18) (N := some 24) (v := ?_) (a' := ?_) #[Zt,Zt,Zt,Zt,Zf,Zt,Zt,Zt,Zt,Zf,Zt,Zt,Zt,Zt,Zf,Zt,Zt,Zt,Zt,Zf,Zf,Zf,Zf] rfl rfl (take_ofW HT_.out HW_.out (by kernel_rfl)) (fun _ _ _ h => h) (Or.inl ⟨by rfl, ?_⟩) hHeld ?_ ?_
  rotate_left
  ·rintro w' ⟨s0, s1, s2, s3, s4, s5, s6, s7⟩
   go_simp
   with_reducible rfl
  rotate_left
  ·simp only [Act.put, Xa, Xb, Xc, i64_w, i32_w]
   rfl
  refine join_ (σ := Nat) 1 #[Zt,Zt,Zt,Zt,Zt,Zt,Zt,Zt,Zt,Zt,Zt,Zt,Zt,Zt,Zt,Zt,Zt,Zt,Zt,Zt,Zt,Zt,Zf] (fun s_ => [(10, .int .i64 t280), (15, .int .i64 t281), (20, .int .i64 t282), (25, .int .i64 t283), (5, .pointer (some ⟨s_, 0, none⟩)), (26, .agg #[.int .i64 t280, .int .i64 t281, .int .i64 t282, .int .i64 t283])]) (fun s_ w' => (w'.cell? ⟨gb277, 0, none⟩ = some (.int .i64 a0_0) ∧ w'.cell? ⟨gb277, 1, none⟩ = some (.int .i64 a0_1) ∧ w'.cell? ⟨gb277, 2, none⟩ = some (.int .i64 a0_2) ∧ w'.cell? ⟨gb277, 3, none⟩ = some (.int .i64 a0_3) ∧ w'.cell? ⟨gb278, 0, none⟩ = some (.int .i64 a1_0) ∧ w'.cell? ⟨gb278, 1, none⟩ = some (.int .i64 a1_1) ∧ w'.cell? ⟨gb278, 2, none⟩ = some (.int .i64 a1_2) ∧ w'.cell? ⟨gb278, 3, none⟩ = some (.int .i64 a1_3)) ∧ (w'.heap[gb277]? = some (.cells #[.int .i64 a0_0, .int .i64 a0_1, .int .i64 a0_2, .int .i64 a0_3] 37 (0, 0))) ∧ (w'.heap[gb278]? = some (.cells #[.int .i64 a1_0, .int .i64 a1_1, .int .i64 a1_2, .int .i64 a1_3] 37 (0, 0))) ∧ (w'.heap[gb279]? = some (.cells #[.int .i64 0, .int .i64 0, .int .i64 0, .int .i64 0] 37 (0, 0))) ∧ (w'.heap[s_]? = some (.cells #[.int .i64 0, .int .i64 0, .int .i64 0, .int .i64 0] 37 (0, 0))) ∧ (w.heap.size ≤ s_) ∧ (w.heap.size ≤ s_) ∧ (gb277 ≠ s_) ∧ (s_ ≠ gb277) ∧ (gb278 ≠ s_) ∧ (s_ ≠ gb278) ∧ (gb279 ≠ s_) ∧ (s_ ≠ gb279) ∧ (Below w.heap.size w w')) ?_ ?_
  rotate_left
  ·intro hJ4_9_14_19_21
   refine join_ (σ := Unit) 2 #[Zt,Zt,Zt,Zt,Zt,Zt,Zt,Zt,Zt,Zt,Zt,Zt,Zt,Zt,Zt,Zt,Zt,Zt,Zt,Zt,Zt,Zf,Zf] (fun s_ => [(10, .int .i64 t280), (15, .int .i64 t281), (20, .int .i64 t282), (25, .int .i64 t283), (26, .agg #[.int .i64 t280, .int .i64 t281, .int .i64 t282, .int .i64 t283])]) (fun s_ w' => (w'.cell? ⟨gb277, 0, none⟩ = some (.int .i64 a0_0) ∧ w'.cell? ⟨gb277, 1, none⟩ = some (.int .i64 a0_1) ∧ w'.cell? ⟨gb277, 2, none⟩ = some (.int .i64 a0_2) ∧ w'.cell? ⟨gb277, 3, none⟩ = some (.int .i64 a0_3) ∧ w'.cell? ⟨gb278, 0, none⟩ = some (.int .i64 a1_0) ∧ w'.cell? ⟨gb278, 1, none⟩ = some (.int .i64 a1_1) ∧ w'.cell? ⟨gb278, 2, none⟩ = some (.int .i64 a1_2) ∧ w'.cell? ⟨gb278, 3, none⟩ = some (.int .i64 a1_3)) ∧ (w'.heap[gb277]? = some (.cells #[.int .i64 a0_0, .int .i64 a0_1, .int .i64 a0_2, .int .i64 a0_3] 37 (0, 0))) ∧ (w'.heap[gb278]? = some (.cells #[.int .i64 a1_0, .int .i64 a1_1, .int .i64 a1_2, .int .i64 a1_3] 37 (0, 0))) ∧ (w'.heap[gb279]? = some (.cells #[.int .i64 0, .int .i64 0, .int .i64 0, .int .i64 0] 37 (0, 0))) ∧ (Below w.heap.size w w')) ?_ ?_
   rotate_left
   ·intro hJ4_9_14_19
    refine join_ (σ := Nat) 3 #[Zt,Zt,Zt,Zt,Zt,Zt,Zt,Zt,Zt,Zt,Zt,Zt,Zt,Zt,Zt,Zt,Zt,Zt,Zt,Zf,Zf,Zt,Zf] (fun s_ => [(10, .int .i64 t280), (15, .int .i64 t281), (20, .int .i64 t282), (5, .pointer (some ⟨s_, 0, none⟩))]) (fun s_ w' => (w'.cell? ⟨gb277, 0, none⟩ = some (.int .i64 a0_0) ∧ w'.cell? ⟨gb277, 1, none⟩ = some (.int .i64 a0_1) ∧ w'.cell? ⟨gb277, 2, none⟩ = some (.int .i64 a0_2) ∧ w'.cell? ⟨gb277, 3, none⟩ = some (.int .i64 a0_3) ∧ w'.cell? ⟨gb278, 0, none⟩ = some (.int .i64 a1_0) ∧ w'.cell? ⟨gb278, 1, none⟩ = some (.int .i64 a1_1) ∧ w'.cell? ⟨gb278, 2, none⟩ = some (.int .i64 a1_2) ∧ w'.cell? ⟨gb278, 3, none⟩ = some (.int .i64 a1_3)) ∧ (w'.heap[gb277]? = some (.cells #[.int .i64 a0_0, .int .i64 a0_1, .int .i64 a0_2, .int .i64 a0_3] 37 (0, 0))) ∧ (w'.heap[gb278]? = some (.cells #[.int .i64 a1_0, .int .i64 a1_1, .int .i64 a1_2, .int .i64 a1_3] 37 (0, 0))) ∧ (w'.heap[gb279]? = some (.cells #[.int .i64 0, .int .i64 0, .int .i64 0, .int .i64 0] 37 (0, 0))) ∧ (w'.heap[s_]? = some (.cells #[.int .i64 0, .int .i64 0, .int .i64 0, .int .i64 0] 37 (0, 0))) ∧ (w.heap.size ≤ s_) ∧ (w.heap.size ≤ s_) ∧ (gb277 ≠ s_) ∧ (s_ ≠ gb277) ∧ (gb278 ≠ s_) ∧ (s_ ≠ gb278) ∧ (gb279 ≠ s_) ∧ (s_ ≠ gb279) ∧ (Below w.heap.size w w')) ?_ ?_
    rotate_left
    ·intro hJ4_9_14_21
     refine join_ (σ := Unit) 4 #[Zt,Zt,Zt,Zt,Zt,Zt,Zt,Zt,Zt,Zt,Zt,Zt,Zt,Zt,Zt,Zt,Zt,Zt,Zt,Zf,Zf,Zf,Zf] (fun s_ => [(10, .int .i64 t280), (15, .int .i64 t281), (20, .int .i64 t282)]) (fun s_ w' => (w'.cell? ⟨gb277, 0, none⟩ = some (.int .i64 a0_0) ∧ w'.cell? ⟨gb277, 1, none⟩ = some (.int .i64 a0_1) ∧ w'.cell? ⟨gb277, 2, none⟩ = some (.int .i64 a0_2) ∧ w'.cell? ⟨gb277, 3, none⟩ = some (.int .i64 a0_3) ∧ w'.cell? ⟨gb278, 0, none⟩ = some (.int .i64 a1_0) ∧ w'.cell? ⟨gb278, 1, none⟩ = some (.int .i64 a1_1) ∧ w'.cell? ⟨gb278, 2, none⟩ = some (.int .i64 a1_2) ∧ w'.cell? ⟨gb278, 3, none⟩ = some (.int .i64 a1_3)) ∧ (w'.heap[gb277]? = some (.cells #[.int .i64 a0_0, .int .i64 a0_1, .int .i64 a0_2, .int .i64 a0_3] 37 (0, 0))) ∧ (w'.heap[gb278]? = some (.cells #[.int .i64 a1_0, .int .i64 a1_1, .int .i64 a1_2, .int .i64 a1_3] 37 (0, 0))) ∧ (w'.heap[gb279]? = some (.cells #[.int .i64 0, .int .i64 0, .int .i64 0, .int .i64 0] 37 (0, 0))) ∧ (Below w.heap.size w w')) ?_ ?_
     rotate_left
     ·intro hJ4_9_14
      refine join_ (σ := Nat) 4 #[Zt,Zt,Zt,Zt,Zt,Zt,Zt,Zt,Zt,Zt,Zt,Zt,Zt,Zt,Zf,Zt,Zt,Zt,Zt,Zf,Zf,Zt,Zf] (fun s_ => [(10, .int .i64 t280), (15, .int .i64 t281), (5, .pointer (some ⟨s_, 0, none⟩))]) (fun s_ w' => (w'.cell? ⟨gb277, 0, none⟩ = some (.int .i64 a0_0) ∧ w'.cell? ⟨gb277, 1, none⟩ = some (.int .i64 a0_1) ∧ w'.cell? ⟨gb277, 2, none⟩ = some (.int .i64 a0_2) ∧ w'.cell? ⟨gb277, 3, none⟩ = some (.int .i64 a0_3) ∧ w'.cell? ⟨gb278, 0, none⟩ = some (.int .i64 a1_0) ∧ w'.cell? ⟨gb278, 1, none⟩ = some (.int .i64 a1_1) ∧ w'.cell? ⟨gb278, 2, none⟩ = some (.int .i64 a1_2) ∧ w'.cell? ⟨gb278, 3, none⟩ = some (.int .i64 a1_3)) ∧ (w'.heap[gb277]? = some (.cells #[.int .i64 a0_0, .int .i64 a0_1, .int .i64 a0_2, .int .i64 a0_3] 37 (0, 0))) ∧ (w'.heap[gb278]? = some (.cells #[.int .i64 a1_0, .int .i64 a1_1, .int .i64 a1_2, .int .i64 a1_3] 37 (0, 0))) ∧ (w'.heap[gb279]? = some (.cells #[.int .i64 0, .int .i64 0, .int .i64 0, .int .i64 0] 37 (0, 0))) ∧ (w'.heap[s_]? = some (.cells #[.int .i64 0, .int .i64 0, .int .i64 0, .int .i64 0] 37 (0, 0))) ∧ (w.heap.size ≤ s_) ∧ (w.heap.size ≤ s_) ∧ (gb277 ≠ s_) ∧ (s_ ≠ gb277) ∧ (gb278 ≠ s_) ∧ (s_ ≠ gb278) ∧ (gb279 ≠ s_) ∧ (s_ ≠ gb279) ∧ (Below w.heap.size w w')) ?_ ?_
      rotate_left
      ·intro hJ4_9_21
       refine join_ (σ := Unit) 5 #[Zt,Zt,Zt,Zt,Zt,Zt,Zt,Zt,Zt,Zt,Zt,Zt,Zt,Zt,Zf,Zt,Zt,Zt,Zt,Zf,Zf,Zf,Zf] (fun s_ => [(10, .int .i64 t280), (15, .int .i64 t281)]) (fun s_ w' => (w'.cell? ⟨gb277, 0, none⟩ = some (.int .i64 a0_0) ∧ w'.cell? ⟨gb277, 1, none⟩ = some (.int .i64 a0_1) ∧ w'.cell? ⟨gb277, 2, none⟩ = some (.int .i64 a0_2) ∧ w'.cell? ⟨gb277, 3, none⟩ = some (.int .i64 a0_3) ∧ w'.cell? ⟨gb278, 0, none⟩ = some (.int .i64 a1_0) ∧ w'.cell? ⟨gb278, 1, none⟩ = some (.int .i64 a1_1) ∧ w'.cell? ⟨gb278, 2, none⟩ = some (.int .i64 a1_2) ∧ w'.cell? ⟨gb278, 3, none⟩ = some (.int .i64 a1_3)) ∧ (w'.heap[gb277]? = some (.cells #[.int .i64 a0_0, .int .i64 a0_1, .int .i64 a0_2, .int .i64 a0_3] 37 (0, 0))) ∧ (w'.heap[gb278]? = some (.cells #[.int .i64 a1_0, .int .i64 a1_1, .int .i64 a1_2, .int .i64 a1_3] 37 (0, 0))) ∧ (w'.heap[gb279]? = some (.cells #[.int .i64 0, .int .i64 0, .int .i64 0, .int .i64 0] 37 (0, 0))) ∧ (Below w.heap.size w w')) ?_ ?_
       rotate_left
       ·intro hJ4_9
        refine join_ (σ := Nat) 5 #[Zt,Zt,Zt,Zt,Zt,Zt,Zt,Zt,Zt,Zf,Zt,Zt,Zt,Zt,Zf,Zt,Zt,Zt,Zt,Zf,Zf,Zt,Zf] (fun s_ => [(10, .int .i64 t280), (5, .pointer (some ⟨s_, 0, none⟩))]) (fun s_ w' => (w'.cell? ⟨gb277, 0, none⟩ = some (.int .i64 a0_0) ∧ w'.cell? ⟨gb277, 1, none⟩ = some (.int .i64 a0_1) ∧ w'.cell? ⟨gb277, 2, none⟩ = some (.int .i64 a0_2) ∧ w'.cell? ⟨gb277, 3, none⟩ = some (.int .i64 a0_3) ∧ w'.cell? ⟨gb278, 0, none⟩ = some (.int .i64 a1_0) ∧ w'.cell? ⟨gb278, 1, none⟩ = some (.int .i64 a1_1) ∧ w'.cell? ⟨gb278, 2, none⟩ = some (.int .i64 a1_2) ∧ w'.cell? ⟨gb278, 3, none⟩ = some (.int .i64 a1_3)) ∧ (w'.heap[gb277]? = some (.cells #[.int .i64 a0_0, .int .i64 a0_1, .int .i64 a0_2, .int .i64 a0_3] 37 (0, 0))) ∧ (w'.heap[gb278]? = some (.cells #[.int .i64 a1_0, .int .i64 a1_1, .int .i64 a1_2, .int .i64 a1_3] 37 (0, 0))) ∧ (w'.heap[gb279]? = some (.cells #[.int .i64 0, .int .i64 0, .int .i64 0, .int .i64 0] 37 (0, 0))) ∧ (w'.heap[s_]? = some (.cells #[.int .i64 0, .int .i64 0, .int .i64 0, .int .i64 0] 37 (0, 0))) ∧ (w.heap.size ≤ s_) ∧ (w.heap.size ≤ s_) ∧ (gb277 ≠ s_) ∧ (s_ ≠ gb277) ∧ (gb278 ≠ s_) ∧ (s_ ≠ gb278) ∧ (gb279 ≠ s_) ∧ (s_ ≠ gb279) ∧ (Below w.heap.size w w')) ?_ ?_
        rotate_left
        ·intro hJ4_21
         refine join_ (σ := Unit) 6 #[Zt,Zt,Zt,Zt,Zt,Zt,Zt,Zt,Zt,Zf,Zt,Zt,Zt,Zt,Zf,Zt,Zt,Zt,Zt,Zf,Zf,Zf,Zf] (fun s_ => [(10, .int .i64 t280)]) (fun s_ w' => (w'.cell? ⟨gb277, 0, none⟩ = some (.int .i64 a0_0) ∧ w'.cell? ⟨gb277, 1, none⟩ = some (.int .i64 a0_1) ∧ w'.cell? ⟨gb277, 2, none⟩ = some (.int .i64 a0_2) ∧ w'.cell? ⟨gb277, 3, none⟩ = some (.int .i64 a0_3) ∧ w'.cell? ⟨gb278, 0, none⟩ = some (.int .i64 a1_0) ∧ w'.cell? ⟨gb278, 1, none⟩ = some (.int .i64 a1_1) ∧ w'.cell? ⟨gb278, 2, none⟩ = some (.int .i64 a1_2) ∧ w'.cell? ⟨gb278, 3, none⟩ = some (.int .i64 a1_3)) ∧ (w'.heap[gb277]? = some (.cells #[.int .i64 a0_0, .int .i64 a0_1, .int .i64 a0_2, .int .i64 a0_3] 37 (0, 0))) ∧ (w'.heap[gb278]? = some (.cells #[.int .i64 a1_0, .int .i64 a1_1, .int .i64 a1_2, .int .i64 a1_3] 37 (0, 0))) ∧ (w'.heap[gb279]? = some (.cells #[.int .i64 0, .int .i64 0, .int .i64 0, .int .i64 0] 37 (0, 0))) ∧ (Below w.heap.size w w')) ?_ ?_
         rotate_left
         ·intro hJ4
          refine join_ (σ := Nat) 6 #[Zt,Zt,Zt,Zt,Zf,Zt,Zt,Zt,Zt,Zf,Zt,Zt,Zt,Zt,Zf,Zt,Zt,Zt,Zt,Zf,Zf,Zt,Zf] (fun s_ => [(5, .pointer (some ⟨s_, 0, none⟩))]) (fun s_ w' => (w'.cell? ⟨gb277, 0, none⟩ = some (.int .i64 a0_0) ∧ w'.cell? ⟨gb277, 1, none⟩ = some (.int .i64 a0_1) ∧ w'.cell? ⟨gb277, 2, none⟩ = some (.int .i64 a0_2) ∧ w'.cell? ⟨gb277, 3, none⟩ = some (.int .i64 a0_3) ∧ w'.cell? ⟨gb278, 0, none⟩ = some (.int .i64 a1_0) ∧ w'.cell? ⟨gb278, 1, none⟩ = some (.int .i64 a1_1) ∧ w'.cell? ⟨gb278, 2, none⟩ = some (.int .i64 a1_2) ∧ w'.cell? ⟨gb278, 3, none⟩ = some (.int .i64 a1_3)) ∧ (w'.heap[gb277]? = some (.cells #[.int .i64 a0_0, .int .i64 a0_1, .int .i64 a0_2, .int .i64 a0_3] 37 (0, 0))) ∧ (w'.heap[gb278]? = some (.cells #[.int .i64 a1_0, .int .i64 a1_1, .int .i64 a1_2, .int .i64 a1_3] 37 (0, 0))) ∧ (w'.heap[gb279]? = some (.cells #[.int .i64 0, .int .i64 0, .int .i64 0, .int .i64 0] 37 (0, 0))) ∧ (w'.heap[s_]? = some (.cells #[.int .i64 0, .int .i64 0, .int .i64 0, .int .i64 0] 37 (0, 0))) ∧ (w.heap.size ≤ s_) ∧ (w.heap.size ≤ s_) ∧ (gb277 ≠ s_) ∧ (s_ ≠ gb277) ∧ (gb278 ≠ s_) ∧ (s_ ≠ gb278) ∧ (gb279 ≠ s_) ∧ (s_ ≠ gb279) ∧ (Below w.heap.size w w')) ?_ ?_
          rotate_left
          ·intro hJ21
           refine two_ (i := 4) (j := 21) (Ni := some 10) (Nj := some 5) #[Zt,Zt,Zt,Zt,Zt,Zt,Zt,Zt,Zt,Zf,Zt,Zt,Zt,Zt,Zf,Zt,Zt,Zt,Zt,Zf,Zf,Zf,Zf] #[Zt,Zt,Zt,Zt,Zf,Zt,Zt,Zt,Zt,Zf,Zt,Zt,Zt,Zt,Zf,Zt,Zt,Zt,Zt,Zf,Zf,Zt,Zf] rfl rfl rfl rfl (two_of HT_.out (by kernel_rfl)) (by decide) (by decide) (fun K hK => ?_) (fun K hK => ?_)
           ·skip
            refine goes_ Try.func73 (by kernel_rfl) rfl #[.int .i64 a0_0, .int .i64 a1_0] (by rfl) rfl rfl (by (try simp only [List.map_toArray, List.map_cons, List.map_nil]); first | done | rfl | (simp only [List.length_drop, List.length_take]; rfl)) ?_
            with_reducible refine (gatherumref04_high.calls a0_0 a1_0 t280 _ A3.out).mono ?_
            rintro e w' ⟨rfl, ⟨nd, rfl⟩⟩
            refine ⟨_, rfl, ?_⟩
            refine hK.out _ _ ⟨(Xd BK277.out 0).trans rfl, (Xd BK277.out 1).trans rfl, (Xd BK277.out 2).trans rfl, (Xd BK277.out 3).trans rfl, (Xd BK278.out 0).trans rfl, (Xd BK278.out 1).trans rfl, (Xd BK278.out 2).trans rfl, (Xd BK278.out 3).trans rfl⟩ (fun hHeld => ?_)
            clear hK K
            refine Xm (a' := ?_) ?_ ?_
            rotate_left
            ·show Act.put _ (some 10) _ = _
             simp only [Act.put, Xa, Xb, Xc, i64_w, i32_w]
             rfl
            exact Xm (by first | (simp only [Xk, Act.put, Xa, Xb, Xc]; done) | (simp only [Xk, Act.put, Xa, Xb, Xc]; rfl)) (hJ4 () _ ⟨hHeld, (bb_11 BK277.out), (bb_11 BK278.out), (bb_11 BK279.out), (hb_11 HB.out)⟩)
           ·skip
            refine box_step ?hg (N := 5) ?hd (cs := #[.int .i64 0, .int .i64 0, .int .i64 0, .int .i64 0]) (t := 37) ?hr ?_; (case hd => rfl); (case hg => rfl); (case hr => first | (go_simp; done) | (go_simp; rfl))
            intro gb284 hg w13 hbox hb
            have n0_ := Za (Xl (g := gb277) (o := .cells #[.int .i64 a0_0, .int .i64 a0_1, .int .i64 a0_2, .int .i64 a0_3] 37 (0, 0)) (bb_11 BK277.out) hb)
            have n1_ := Za (Xl (g := gb278) (o := .cells #[.int .i64 a1_0, .int .i64 a1_1, .int .i64 a1_2, .int .i64 a1_3] 37 (0, 0)) (bb_11 BK278.out) hb)
            have n2_ := Za (Xl (g := gb279) (o := .cells #[.int .i64 0, .int .i64 0, .int .i64 0, .int .i64 0] 37 (0, 0)) (bb_11 BK279.out) hb)
            have n3_ := Za (below_step (hb_11 HB.out) hb)
            have n4_ := Za (hbox)
            have n5_ := Za ((by rw [hg]; exact (Xn (hb_11 HB.out)) : w.heap.size ≤ gb284))
            have n6_ := Za ((by rw [hg]; exact (Xn (hb_11 HB.out)) : w.heap.size ≤ gb284))
            have n7_ := Za ((by rw [hg]; exact Nat.ne_of_lt (Xj (g := gb277) (o := .cells #[.int .i64 a0_0, .int .i64 a0_1, .int .i64 a0_2, .int .i64 a0_3] 37 (0, 0)) (bb_11 BK277.out)) : gb277 ≠ gb284))
            have n8_ := Za ((by rw [hg]; exact Nat.ne_of_gt (Xj (g := gb277) (o := .cells #[.int .i64 a0_0, .int .i64 a0_1, .int .i64 a0_2, .int .i64 a0_3] 37 (0, 0)) (bb_11 BK277.out)) : gb284 ≠ gb277))
            have n9_ := Za ((by rw [hg]; exact Nat.ne_of_lt (Xj (g := gb278) (o := .cells #[.int .i64 a1_0, .int .i64 a1_1, .int .i64 a1_2, .int .i64 a1_3] 37 (0, 0)) (bb_11 BK278.out)) : gb278 ≠ gb284))
            have n10_ := Za ((by rw [hg]; exact Nat.ne_of_gt (Xj (g := gb278) (o := .cells #[.int .i64 a1_0, .int .i64 a1_1, .int .i64 a1_2, .int .i64 a1_3] 37 (0, 0)) (bb_11 BK278.out)) : gb284 ≠ gb278))
            have n11_ := Za ((by rw [hg]; exact Nat.ne_of_lt (Xj (g := gb279) (o := .cells #[.int .i64 0, .int .i64 0, .int .i64 0, .int .i64 0] 37 (0, 0)) (bb_11 BK279.out)) : gb279 ≠ gb284))
            have n12_ := Za ((by rw [hg]; exact Nat.ne_of_gt (Xj (g := gb279) (o := .cells #[.int .i64 0, .int .i64 0, .int .i64 0, .int .i64 0] 37 (0, 0)) (bb_11 BK279.out)) : gb284 ≠ gb279))
            clear BK277
            clear BK278
            clear BK279
            clear HB
            have BK277 := n0_
            have BK278 := n1_
            have BK279 := n2_
            have HB := n3_
            have BK284 := n4_
            have GW284 := n5_
            have GE284 := n6_
            have NB277_284 := n7_
            have NB284_277 := n8_
            have NB278_284 := n9_
            have NB284_278 := n10_
            have NB279_284 := n11_
            have NB284_279 := n12_
            clear n0_ n1_ n2_ n3_ n4_ n5_ n6_ n7_ n8_ n9_ n10_ n11_ n12_
            clear hb hbox hg
            refine hK.out _ _ ⟨(Xd BK277.out 0).trans rfl, (Xd BK277.out 1).trans rfl, (Xd BK277.out 2).trans rfl, (Xd BK277.out 3).trans rfl, (Xd BK278.out 0).trans rfl, (Xd BK278.out 1).trans rfl, (Xd BK278.out 2).trans rfl, (Xd BK278.out 3).trans rfl⟩ (fun hHeld => ?_)
            clear hK K
            refine Xm (a' := ?_) ?_ ?_
            rotate_left
            ·show Act.put _ (some 5) _ = _
             simp only [Act.put, Xa, Xb, Xc, i64_w, i32_w]
             rfl
            exact Xm (by first | (simp only [Xk, Act.put, Xa, Xb, Xc]; done) | (simp only [Xk, Act.put, Xa, Xb, Xc]; rfl)) (hJ21 (gb284) _ ⟨hHeld, (bb_11 BK277.out), (bb_11 BK278.out), (bb_11 BK279.out), (bb_11 BK284.out), GW284.out, GE284.out, NB277_284.out, NB284_277.out, NB278_284.out, NB284_278.out, NB279_284.out, NB284_279.out, (hb_11 HB.out)⟩)
          ·skip
           rintro gb284 w14 ⟨hS_, h0_, h1_, h2_, h3_, h4_, h5_, h6_, h7_, h8_, h9_, h10_, h11_, h12_⟩
           have n0_ : Xe (w14.heap[gb277]? = some (.cells #[.int .i64 a0_0, .int .i64 a0_1, .int .i64 a0_2, .int .i64 a0_3] 37 (0, 0))) := ⟨h0_⟩
           have n1_ : Xe (w14.heap[gb278]? = some (.cells #[.int .i64 a1_0, .int .i64 a1_1, .int .i64 a1_2, .int .i64 a1_3] 37 (0, 0))) := ⟨h1_⟩
           have n2_ : Xe (w14.heap[gb279]? = some (.cells #[.int .i64 0, .int .i64 0, .int .i64 0, .int .i64 0] 37 (0, 0))) := ⟨h2_⟩
           have n3_ : Xe (w14.heap[gb284]? = some (.cells #[.int .i64 0, .int .i64 0, .int .i64 0, .int .i64 0] 37 (0, 0))) := ⟨h3_⟩
           have n4_ : Xe (w.heap.size ≤ gb284) := ⟨h4_⟩
           have n5_ : Xe (w.heap.size ≤ gb284) := ⟨h5_⟩
           have n6_ : Xe (gb277 ≠ gb284) := ⟨h6_⟩
           have n7_ : Xe (gb284 ≠ gb277) := ⟨h7_⟩
           have n8_ : Xe (gb278 ≠ gb284) := ⟨h8_⟩
           have n9_ : Xe (gb284 ≠ gb278) := ⟨h9_⟩
           have n10_ : Xe (gb279 ≠ gb284) := ⟨h10_⟩
           have n11_ : Xe (gb284 ≠ gb279) := ⟨h11_⟩
           have n12_ : Xe (Below w.heap.size w w14) := ⟨h12_⟩
           clear BK277
           clear BK278
           clear BK279
           clear HB
           clear h0_ h1_ h2_ h3_ h4_ h5_ h6_ h7_ h8_ h9_ h10_ h11_ h12_
           have BK277 := n0_
           have BK278 := n1_
           have BK279 := n2_
           have BK284 := n3_
           have GW284 := n4_
           have GE284 := n5_
           have NB277_284 := n6_
           have NB284_277 := n7_
           have NB278_284 := n8_
           have NB284_278 := n9_
           have NB279_284 := n10_
           have NB284_279 := n11_
           have HB := n12_
           clear n0_ n1_ n2_ n3_ n4_ n5_ n6_ n7_ n8_ n9_ n10_ n11_ n12_
           have hHeld : w14.cell? ⟨gb277, 0, none⟩ = some (.int .i64 a0_0) ∧ w14.cell? ⟨gb277, 1, none⟩ = some (.int .i64 a0_1) ∧ w14.cell? ⟨gb277, 2, none⟩ = some (.int .i64 a0_2) ∧ w14.cell? ⟨gb277, 3, none⟩ = some (.int .i64 a0_3) ∧ w14.cell? ⟨gb278, 0, none⟩ = some (.int .i64 a1_0) ∧ w14.cell? ⟨gb278, 1, none⟩ = some (.int .i64 a1_1) ∧ w14.cell? ⟨gb278, 2, none⟩ = some (.int .i64 a1_2) ∧ w14.cell? ⟨gb278, 3, none⟩ = some (.int .i64 a1_3) := hS_
           refine Xm (a' := ?_) ?_ ?_
           rotate_left
           ·simp only [Xk, Act.put, Xa, Xb, Xc]
            rfl
           refine one_ (i := 4) (N := some 10) #[Zt,Zt,Zt,Zt,Zt,Zt,Zt,Zt,Zt,Zf,Zt,Zt,Zt,Zt,Zf,Zt,Zt,Zt,Zt,Zf,Zf,Zt,Zf] rfl rfl (one_of HT_.out (by kernel_rfl)) (by decide) (fun K hK => ?_)
           refine goes_ Try.func73 (by kernel_rfl) rfl #[.int .i64 a0_0, .int .i64 a1_0] (by rfl) rfl rfl (by (try simp only [List.map_toArray, List.map_cons, List.map_nil]); first | done | rfl | (simp only [List.length_drop, List.length_take]; rfl)) ?_
           with_reducible refine (gatherumref04_high.calls a0_0 a1_0 t280 _ A3.out).mono ?_
           rintro e w' ⟨rfl, ⟨nd, rfl⟩⟩
           refine ⟨_, rfl, ?_⟩
           refine hK.out _ _ ⟨(Xd BK277.out 0).trans rfl, (Xd BK277.out 1).trans rfl, (Xd BK277.out 2).trans rfl, (Xd BK277.out 3).trans rfl, (Xd BK278.out 0).trans rfl, (Xd BK278.out 1).trans rfl, (Xd BK278.out 2).trans rfl, (Xd BK278.out 3).trans rfl⟩ (fun hHeld => ?_)
           clear hK K
           refine Xm (a' := ?_) ?_ ?_
           rotate_left
           ·show Act.put _ (some 10) _ = _
            simp only [Act.put, Xa, Xb, Xc, i64_w, i32_w]
            rfl
           exact Xm (by first | (simp only [Xk, Act.put, Xa, Xb, Xc]; done) | (simp only [Xk, Act.put, Xa, Xb, Xc]; rfl)) (hJ4_21 (gb284) _ ⟨hHeld, (bb_11 BK277.out), (bb_11 BK278.out), (bb_11 BK279.out), (bb_11 BK284.out), GW284.out, GE284.out, NB277_284.out, NB284_277.out, NB278_284.out, NB284_278.out, NB279_284.out, NB284_279.out, (hb_11 HB.out)⟩)
         ·skip
          rintro _ w13 ⟨hS_, h0_, h1_, h2_, h3_⟩
          have n0_ : Xe (w13.heap[gb277]? = some (.cells #[.int .i64 a0_0, .int .i64 a0_1, .int .i64 a0_2, .int .i64 a0_3] 37 (0, 0))) := ⟨h0_⟩
          have n1_ : Xe (w13.heap[gb278]? = some (.cells #[.int .i64 a1_0, .int .i64 a1_1, .int .i64 a1_2, .int .i64 a1_3] 37 (0, 0))) := ⟨h1_⟩
          have n2_ : Xe (w13.heap[gb279]? = some (.cells #[.int .i64 0, .int .i64 0, .int .i64 0, .int .i64 0] 37 (0, 0))) := ⟨h2_⟩
          have n3_ : Xe (Below w.heap.size w w13) := ⟨h3_⟩
          clear BK277
          clear BK278
          clear BK279
          clear HB
          clear h0_ h1_ h2_ h3_
          have BK277 := n0_
          have BK278 := n1_
          have BK279 := n2_
          have HB := n3_
          clear n0_ n1_ n2_ n3_
          have hHeld : w13.cell? ⟨gb277, 0, none⟩ = some (.int .i64 a0_0) ∧ w13.cell? ⟨gb277, 1, none⟩ = some (.int .i64 a0_1) ∧ w13.cell? ⟨gb277, 2, none⟩ = some (.int .i64 a0_2) ∧ w13.cell? ⟨gb277, 3, none⟩ = some (.int .i64 a0_3) ∧ w13.cell? ⟨gb278, 0, none⟩ = some (.int .i64 a1_0) ∧ w13.cell? ⟨gb278, 1, none⟩ = some (.int .i64 a1_1) ∧ w13.cell? ⟨gb278, 2, none⟩ = some (.int .i64 a1_2) ∧ w13.cell? ⟨gb278, 3, none⟩ = some (.int .i64 a1_3) := hS_
          refine Xm (a' := ?_) ?_ ?_
          rotate_left
          ·simp only [Xk, Act.put, Xa, Xb, Xc]
           rfl
          refine two_ (i := 9) (j := 21) (Ni := some 15) (Nj := some 5) #[Zt,Zt,Zt,Zt,Zt,Zt,Zt,Zt,Zt,Zt,Zt,Zt,Zt,Zt,Zf,Zt,Zt,Zt,Zt,Zf,Zf,Zf,Zf] #[Zt,Zt,Zt,Zt,Zt,Zt,Zt,Zt,Zt,Zf,Zt,Zt,Zt,Zt,Zf,Zt,Zt,Zt,Zt,Zf,Zf,Zt,Zf] rfl rfl rfl rfl (two_of HT_.out (by kernel_rfl)) (by decide) (by decide) (fun K hK => ?_) (fun K hK => ?_)
          ·skip
           refine goes_ Try.func73 (by kernel_rfl) rfl #[.int .i64 a0_1, .int .i64 a1_1] (by rfl) rfl rfl (by (try simp only [List.map_toArray, List.map_cons, List.map_nil]); first | done | rfl | (simp only [List.length_drop, List.length_take]; rfl)) ?_
           with_reducible refine (gatherumref04_high.calls a0_1 a1_1 t281 _ A4.out).mono ?_
           rintro e w' ⟨rfl, ⟨nd, rfl⟩⟩
           refine ⟨_, rfl, ?_⟩
           refine hK.out _ _ ⟨(Xd BK277.out 0).trans rfl, (Xd BK277.out 1).trans rfl, (Xd BK277.out 2).trans rfl, (Xd BK277.out 3).trans rfl, (Xd BK278.out 0).trans rfl, (Xd BK278.out 1).trans rfl, (Xd BK278.out 2).trans rfl, (Xd BK278.out 3).trans rfl⟩ (fun hHeld => ?_)
           clear hK K
           refine Xm (a' := ?_) ?_ ?_
           rotate_left
           ·show Act.put _ (some 15) _ = _
            simp only [Act.put, Xa, Xb, Xc, i64_w, i32_w]
            rfl
           exact Xm (by first | (simp only [Xk, Act.put, Xa, Xb, Xc]; done) | (simp only [Xk, Act.put, Xa, Xb, Xc]; rfl)) (hJ4_9 () _ ⟨hHeld, (bb_11 BK277.out), (bb_11 BK278.out), (bb_11 BK279.out), (hb_11 HB.out)⟩)
          ·skip
           refine box_step ?hg (N := 5) ?hd (cs := #[.int .i64 0, .int .i64 0, .int .i64 0, .int .i64 0]) (t := 37) ?hr ?_; (case hd => rfl); (case hg => rfl); (case hr => first | (go_simp; done) | (go_simp; rfl))
           intro gb284 hg w14 hbox hb
           have n0_ := Za (Xl (g := gb277) (o := .cells #[.int .i64 a0_0, .int .i64 a0_1, .int .i64 a0_2, .int .i64 a0_3] 37 (0, 0)) (bb_11 BK277.out) hb)
           have n1_ := Za (Xl (g := gb278) (o := .cells #[.int .i64 a1_0, .int .i64 a1_1, .int .i64 a1_2, .int .i64 a1_3] 37 (0, 0)) (bb_11 BK278.out) hb)
           have n2_ := Za (Xl (g := gb279) (o := .cells #[.int .i64 0, .int .i64 0, .int .i64 0, .int .i64 0] 37 (0, 0)) (bb_11 BK279.out) hb)
           have n3_ := Za (below_step (hb_11 HB.out) hb)
           have n4_ := Za (hbox)
           have n5_ := Za ((by rw [hg]; exact (Xn (hb_11 HB.out)) : w.heap.size ≤ gb284))
           have n6_ := Za ((by rw [hg]; exact (Xn (hb_11 HB.out)) : w.heap.size ≤ gb284))
           have n7_ := Za ((by rw [hg]; exact Nat.ne_of_lt (Xj (g := gb277) (o := .cells #[.int .i64 a0_0, .int .i64 a0_1, .int .i64 a0_2, .int .i64 a0_3] 37 (0, 0)) (bb_11 BK277.out)) : gb277 ≠ gb284))
           have n8_ := Za ((by rw [hg]; exact Nat.ne_of_gt (Xj (g := gb277) (o := .cells #[.int .i64 a0_0, .int .i64 a0_1, .int .i64 a0_2, .int .i64 a0_3] 37 (0, 0)) (bb_11 BK277.out)) : gb284 ≠ gb277))
           have n9_ := Za ((by rw [hg]; exact Nat.ne_of_lt (Xj (g := gb278) (o := .cells #[.int .i64 a1_0, .int .i64 a1_1, .int .i64 a1_2, .int .i64 a1_3] 37 (0, 0)) (bb_11 BK278.out)) : gb278 ≠ gb284))
           have n10_ := Za ((by rw [hg]; exact Nat.ne_of_gt (Xj (g := gb278) (o := .cells #[.int .i64 a1_0, .int .i64 a1_1, .int .i64 a1_2, .int .i64 a1_3] 37 (0, 0)) (bb_11 BK278.out)) : gb284 ≠ gb278))
           have n11_ := Za ((by rw [hg]; exact Nat.ne_of_lt (Xj (g := gb279) (o := .cells #[.int .i64 0, .int .i64 0, .int .i64 0, .int .i64 0] 37 (0, 0)) (bb_11 BK279.out)) : gb279 ≠ gb284))
           have n12_ := Za ((by rw [hg]; exact Nat.ne_of_gt (Xj (g := gb279) (o := .cells #[.int .i64 0, .int .i64 0, .int .i64 0, .int .i64 0] 37 (0, 0)) (bb_11 BK279.out)) : gb284 ≠ gb279))
           clear BK277
           clear BK278
           clear BK279
           clear HB
           have BK277 := n0_
           have BK278 := n1_
           have BK279 := n2_
           have HB := n3_
           have BK284 := n4_
           have GW284 := n5_
           have GE284 := n6_
           have NB277_284 := n7_
           have NB284_277 := n8_
           have NB278_284 := n9_
           have NB284_278 := n10_
           have NB279_284 := n11_
           have NB284_279 := n12_
           clear n0_ n1_ n2_ n3_ n4_ n5_ n6_ n7_ n8_ n9_ n10_ n11_ n12_
           clear hb hbox hg
           refine hK.out _ _ ⟨(Xd BK277.out 0).trans rfl, (Xd BK277.out 1).trans rfl, (Xd BK277.out 2).trans rfl, (Xd BK277.out 3).trans rfl, (Xd BK278.out 0).trans rfl, (Xd BK278.out 1).trans rfl, (Xd BK278.out 2).trans rfl, (Xd BK278.out 3).trans rfl⟩ (fun hHeld => ?_)
           clear hK K
           refine Xm (a' := ?_) ?_ ?_
           rotate_left
           ·show Act.put _ (some 5) _ = _
            simp only [Act.put, Xa, Xb, Xc, i64_w, i32_w]
            rfl
           exact Xm (by first | (simp only [Xk, Act.put, Xa, Xb, Xc]; done) | (simp only [Xk, Act.put, Xa, Xb, Xc]; rfl)) (hJ4_21 (gb284) _ ⟨hHeld, (bb_11 BK277.out), (bb_11 BK278.out), (bb_11 BK279.out), (bb_11 BK284.out), GW284.out, GE284.out, NB277_284.out, NB284_277.out, NB278_284.out, NB284_278.out, NB279_284.out, NB284_279.out, (hb_11 HB.out)⟩)
        ·skip
         rintro gb284 w14 ⟨hS_, h0_, h1_, h2_, h3_, h4_, h5_, h6_, h7_, h8_, h9_, h10_, h11_, h12_⟩
         have n0_ : Xe (w14.heap[gb277]? = some (.cells #[.int .i64 a0_0, .int .i64 a0_1, .int .i64 a0_2, .int .i64 a0_3] 37 (0, 0))) := ⟨h0_⟩
         have n1_ : Xe (w14.heap[gb278]? = some (.cells #[.int .i64 a1_0, .int .i64 a1_1, .int .i64 a1_2, .int .i64 a1_3] 37 (0, 0))) := ⟨h1_⟩
         have n2_ : Xe (w14.heap[gb279]? = some (.cells #[.int .i64 0, .int .i64 0, .int .i64 0, .int .i64 0] 37 (0, 0))) := ⟨h2_⟩
         have n3_ : Xe (w14.heap[gb284]? = some (.cells #[.int .i64 0, .int .i64 0, .int .i64 0, .int .i64 0] 37 (0, 0))) := ⟨h3_⟩
         have n4_ : Xe (w.heap.size ≤ gb284) := ⟨h4_⟩
         have n5_ : Xe (w.heap.size ≤ gb284) := ⟨h5_⟩
         have n6_ : Xe (gb277 ≠ gb284) := ⟨h6_⟩
         have n7_ : Xe (gb284 ≠ gb277) := ⟨h7_⟩
         have n8_ : Xe (gb278 ≠ gb284) := ⟨h8_⟩
         have n9_ : Xe (gb284 ≠ gb278) := ⟨h9_⟩
         have n10_ : Xe (gb279 ≠ gb284) := ⟨h10_⟩
         have n11_ : Xe (gb284 ≠ gb279) := ⟨h11_⟩
         have n12_ : Xe (Below w.heap.size w w14) := ⟨h12_⟩
         clear BK277
         clear BK278
         clear BK279
         clear HB
         clear h0_ h1_ h2_ h3_ h4_ h5_ h6_ h7_ h8_ h9_ h10_ h11_ h12_
         have BK277 := n0_
         have BK278 := n1_
         have BK279 := n2_
         have BK284 := n3_
         have GW284 := n4_
         have GE284 := n5_
         have NB277_284 := n6_
         have NB284_277 := n7_
         have NB278_284 := n8_
         have NB284_278 := n9_
         have NB279_284 := n10_
         have NB284_279 := n11_
         have HB := n12_
         clear n0_ n1_ n2_ n3_ n4_ n5_ n6_ n7_ n8_ n9_ n10_ n11_ n12_
         have hHeld : w14.cell? ⟨gb277, 0, none⟩ = some (.int .i64 a0_0) ∧ w14.cell? ⟨gb277, 1, none⟩ = some (.int .i64 a0_1) ∧ w14.cell? ⟨gb277, 2, none⟩ = some (.int .i64 a0_2) ∧ w14.cell? ⟨gb277, 3, none⟩ = some (.int .i64 a0_3) ∧ w14.cell? ⟨gb278, 0, none⟩ = some (.int .i64 a1_0) ∧ w14.cell? ⟨gb278, 1, none⟩ = some (.int .i64 a1_1) ∧ w14.cell? ⟨gb278, 2, none⟩ = some (.int .i64 a1_2) ∧ w14.cell? ⟨gb278, 3, none⟩ = some (.int .i64 a1_3) := hS_
         refine Xm (a' := ?_) ?_ ?_
         rotate_left
         ·simp only [Xk, Act.put, Xa, Xb, Xc]
          rfl
         refine one_ (i := 9) (N := some 15) #[Zt,Zt,Zt,Zt,Zt,Zt,Zt,Zt,Zt,Zt,Zt,Zt,Zt,Zt,Zf,Zt,Zt,Zt,Zt,Zf,Zf,Zt,Zf] rfl rfl (one_of HT_.out (by kernel_rfl)) (by decide) (fun K hK => ?_)
         refine goes_ Try.func73 (by kernel_rfl) rfl #[.int .i64 a0_1, .int .i64 a1_1] (by rfl) rfl rfl (by (try simp only [List.map_toArray, List.map_cons, List.map_nil]); first | done | rfl | (simp only [List.length_drop, List.length_take]; rfl)) ?_
         with_reducible refine (gatherumref04_high.calls a0_1 a1_1 t281 _ A4.out).mono ?_
         rintro e w' ⟨rfl, ⟨nd, rfl⟩⟩
         refine ⟨_, rfl, ?_⟩
         refine hK.out _ _ ⟨(Xd BK277.out 0).trans rfl, (Xd BK277.out 1).trans rfl, (Xd BK277.out 2).trans rfl, (Xd BK277.out 3).trans rfl, (Xd BK278.out 0).trans rfl, (Xd BK278.out 1).trans rfl, (Xd BK278.out 2).trans rfl, (Xd BK278.out 3).trans rfl⟩ (fun hHeld => ?_)
         clear hK K
         refine Xm (a' := ?_) ?_ ?_
         rotate_left
         ·show Act.put _ (some 15) _ = _
          simp only [Act.put, Xa, Xb, Xc, i64_w, i32_w]
          rfl
         exact Xm (by first | (simp only [Xk, Act.put, Xa, Xb, Xc]; done) | (simp only [Xk, Act.put, Xa, Xb, Xc]; rfl)) (hJ4_9_21 (gb284) _ ⟨hHeld, (bb_11 BK277.out), (bb_11 BK278.out), (bb_11 BK279.out), (bb_11 BK284.out), GW284.out, GE284.out, NB277_284.out, NB284_277.out, NB278_284.out, NB284_278.out, NB279_284.out, NB284_279.out, (hb_11 HB.out)⟩)
       ·skip
        rintro _ w13 ⟨hS_, h0_, h1_, h2_, h3_⟩
        have n0_ : Xe (w13.heap[gb277]? = some (.cells #[.int .i64 a0_0, .int .i64 a0_1, .int .i64 a0_2, .int .i64 a0_3] 37 (0, 0))) := ⟨h0_⟩
        have n1_ : Xe (w13.heap[gb278]? = some (.cells #[.int .i64 a1_0, .int .i64 a1_1, .int .i64 a1_2, .int .i64 a1_3] 37 (0, 0))) := ⟨h1_⟩
        have n2_ : Xe (w13.heap[gb279]? = some (.cells #[.int .i64 0, .int .i64 0, .int .i64 0, .int .i64 0] 37 (0, 0))) := ⟨h2_⟩
        have n3_ : Xe (Below w.heap.size w w13) := ⟨h3_⟩
        clear BK277
        clear BK278
        clear BK279
        clear HB
        clear h0_ h1_ h2_ h3_
        have BK277 := n0_
        have BK278 := n1_
        have BK279 := n2_
        have HB := n3_
        clear n0_ n1_ n2_ n3_
        have hHeld : w13.cell? ⟨gb277, 0, none⟩ = some (.int .i64 a0_0) ∧ w13.cell? ⟨gb277, 1, none⟩ = some (.int .i64 a0_1) ∧ w13.cell? ⟨gb277, 2, none⟩ = some (.int .i64 a0_2) ∧ w13.cell? ⟨gb277, 3, none⟩ = some (.int .i64 a0_3) ∧ w13.cell? ⟨gb278, 0, none⟩ = some (.int .i64 a1_0) ∧ w13.cell? ⟨gb278, 1, none⟩ = some (.int .i64 a1_1) ∧ w13.cell? ⟨gb278, 2, none⟩ = some (.int .i64 a1_2) ∧ w13.cell? ⟨gb278, 3, none⟩ = some (.int .i64 a1_3) := hS_
        refine Xm (a' := ?_) ?_ ?_
        rotate_left
        ·simp only [Xk, Act.put, Xa, Xb, Xc]
         rfl
        refine two_ (i := 14) (j := 21) (Ni := some 20) (Nj := some 5) #[Zt,Zt,Zt,Zt,Zt,Zt,Zt,Zt,Zt,Zt,Zt,Zt,Zt,Zt,Zt,Zt,Zt,Zt,Zt,Zf,Zf,Zf,Zf] #[Zt,Zt,Zt,Zt,Zt,Zt,Zt,Zt,Zt,Zt,Zt,Zt,Zt,Zt,Zf,Zt,Zt,Zt,Zt,Zf,Zf,Zt,Zf] rfl rfl rfl rfl (two_of HT_.out (by kernel_rfl)) (by decide) (by decide) (fun K hK => ?_) (fun K hK => ?_)
        ·skip
         refine goes_ Try.func72 (by kernel_rfl) rfl #[.int .i64 a0_2, .int .i64 a1_2] (by rfl) rfl rfl (by (try simp only [List.map_toArray, List.map_cons, List.map_nil]); first | done | rfl | (simp only [List.length_drop, List.length_take]; rfl)) ?_
         with_reducible refine (gatherumref04_low.calls a0_2 a1_2 t282 _ A5.out).mono ?_
         rintro e w' ⟨rfl, ⟨nd, rfl⟩⟩
         refine ⟨_, rfl, ?_⟩
         refine hK.out _ _ ⟨(Xd BK277.out 0).trans rfl, (Xd BK277.out 1).trans rfl, (Xd BK277.out 2).trans rfl, (Xd BK277.out 3).trans rfl, (Xd BK278.out 0).trans rfl, (Xd BK278.out 1).trans rfl, (Xd BK278.out 2).trans rfl, (Xd BK278.out 3).trans rfl⟩ (fun hHeld => ?_)
         clear hK K
         refine Xm (a' := ?_) ?_ ?_
         rotate_left
         ·show Act.put _ (some 20) _ = _
          simp only [Act.put, Xa, Xb, Xc, i64_w, i32_w]
          rfl
         exact Xm (by first | (simp only [Xk, Act.put, Xa, Xb, Xc]; done) | (simp only [Xk, Act.put, Xa, Xb, Xc]; rfl)) (hJ4_9_14 () _ ⟨hHeld, (bb_11 BK277.out), (bb_11 BK278.out), (bb_11 BK279.out), (hb_11 HB.out)⟩)
        ·skip
         refine box_step ?hg (N := 5) ?hd (cs := #[.int .i64 0, .int .i64 0, .int .i64 0, .int .i64 0]) (t := 37) ?hr ?_; (case hd => rfl); (case hg => rfl); (case hr => first | (go_simp; done) | (go_simp; rfl))
         intro gb284 hg w14 hbox hb
         have n0_ := Za (Xl (g := gb277) (o := .cells #[.int .i64 a0_0, .int .i64 a0_1, .int .i64 a0_2, .int .i64 a0_3] 37 (0, 0)) (bb_11 BK277.out) hb)
         have n1_ := Za (Xl (g := gb278) (o := .cells #[.int .i64 a1_0, .int .i64 a1_1, .int .i64 a1_2, .int .i64 a1_3] 37 (0, 0)) (bb_11 BK278.out) hb)
         have n2_ := Za (Xl (g := gb279) (o := .cells #[.int .i64 0, .int .i64 0, .int .i64 0, .int .i64 0] 37 (0, 0)) (bb_11 BK279.out) hb)
         have n3_ := Za (below_step (hb_11 HB.out) hb)
         have n4_ := Za (hbox)
         have n5_ := Za ((by rw [hg]; exact (Xn (hb_11 HB.out)) : w.heap.size ≤ gb284))
         have n6_ := Za ((by rw [hg]; exact (Xn (hb_11 HB.out)) : w.heap.size ≤ gb284))
         have n7_ := Za ((by rw [hg]; exact Nat.ne_of_lt (Xj (g := gb277) (o := .cells #[.int .i64 a0_0, .int .i64 a0_1, .int .i64 a0_2, .int .i64 a0_3] 37 (0, 0)) (bb_11 BK277.out)) : gb277 ≠ gb284))
         have n8_ := Za ((by rw [hg]; exact Nat.ne_of_gt (Xj (g := gb277) (o := .cells #[.int .i64 a0_0, .int .i64 a0_1, .int .i64 a0_2, .int .i64 a0_3] 37 (0, 0)) (bb_11 BK277.out)) : gb284 ≠ gb277))
         have n9_ := Za ((by rw [hg]; exact Nat.ne_of_lt (Xj (g := gb278) (o := .cells #[.int .i64 a1_0, .int .i64 a1_1, .int .i64 a1_2, .int .i64 a1_3] 37 (0, 0)) (bb_11 BK278.out)) : gb278 ≠ gb284))
         have n10_ := Za ((by rw [hg]; exact Nat.ne_of_gt (Xj (g := gb278) (o := .cells #[.int .i64 a1_0, .int .i64 a1_1, .int .i64 a1_2, .int .i64 a1_3] 37 (0, 0)) (bb_11 BK278.out)) : gb284 ≠ gb278))
         have n11_ := Za ((by rw [hg]; exact Nat.ne_of_lt (Xj (g := gb279) (o := .cells #[.int .i64 0, .int .i64 0, .int .i64 0, .int .i64 0] 37 (0, 0)) (bb_11 BK279.out)) : gb279 ≠ gb284))
         have n12_ := Za ((by rw [hg]; exact Nat.ne_of_gt (Xj (g := gb279) (o := .cells #[.int .i64 0, .int .i64 0, .int .i64 0, .int .i64 0] 37 (0, 0)) (bb_11 BK279.out)) : gb284 ≠ gb279))
         clear BK277
         clear BK278
         clear BK279
         clear HB
         have BK277 := n0_
         have BK278 := n1_
         have BK279 := n2_
         have HB := n3_
         have BK284 := n4_
         have GW284 := n5_
         have GE284 := n6_
         have NB277_284 := n7_
         have NB284_277 := n8_
         have NB278_284 := n9_
         have NB284_278 := n10_
         have NB279_284 := n11_
         have NB284_279 := n12_
         clear n0_ n1_ n2_ n3_ n4_ n5_ n6_ n7_ n8_ n9_ n10_ n11_ n12_
         clear hb hbox hg
         refine hK.out _ _ ⟨(Xd BK277.out 0).trans rfl, (Xd BK277.out 1).trans rfl, (Xd BK277.out 2).trans rfl, (Xd BK277.out 3).trans rfl, (Xd BK278.out 0).trans rfl, (Xd BK278.out 1).trans rfl, (Xd BK278.out 2).trans rfl, (Xd BK278.out 3).trans rfl⟩ (fun hHeld => ?_)
         clear hK K
         refine Xm (a' := ?_) ?_ ?_
         rotate_left
         ·show Act.put _ (some 5) _ = _
          simp only [Act.put, Xa, Xb, Xc, i64_w, i32_w]
          rfl
         exact Xm (by first | (simp only [Xk, Act.put, Xa, Xb, Xc]; done) | (simp only [Xk, Act.put, Xa, Xb, Xc]; rfl)) (hJ4_9_21 (gb284) _ ⟨hHeld, (bb_11 BK277.out), (bb_11 BK278.out), (bb_11 BK279.out), (bb_11 BK284.out), GW284.out, GE284.out, NB277_284.out, NB284_277.out, NB278_284.out, NB284_278.out, NB279_284.out, NB284_279.out, (hb_11 HB.out)⟩)
      ·skip
       rintro gb284 w14 ⟨hS_, h0_, h1_, h2_, h3_, h4_, h5_, h6_, h7_, h8_, h9_, h10_, h11_, h12_⟩
       have n0_ : Xe (w14.heap[gb277]? = some (.cells #[.int .i64 a0_0, .int .i64 a0_1, .int .i64 a0_2, .int .i64 a0_3] 37 (0, 0))) := ⟨h0_⟩
       have n1_ : Xe (w14.heap[gb278]? = some (.cells #[.int .i64 a1_0, .int .i64 a1_1, .int .i64 a1_2, .int .i64 a1_3] 37 (0, 0))) := ⟨h1_⟩
       have n2_ : Xe (w14.heap[gb279]? = some (.cells #[.int .i64 0, .int .i64 0, .int .i64 0, .int .i64 0] 37 (0, 0))) := ⟨h2_⟩
       have n3_ : Xe (w14.heap[gb284]? = some (.cells #[.int .i64 0, .int .i64 0, .int .i64 0, .int .i64 0] 37 (0, 0))) := ⟨h3_⟩
       have n4_ : Xe (w.heap.size ≤ gb284) := ⟨h4_⟩
       have n5_ : Xe (w.heap.size ≤ gb284) := ⟨h5_⟩
       have n6_ : Xe (gb277 ≠ gb284) := ⟨h6_⟩
       have n7_ : Xe (gb284 ≠ gb277) := ⟨h7_⟩
       have n8_ : Xe (gb278 ≠ gb284) := ⟨h8_⟩
       have n9_ : Xe (gb284 ≠ gb278) := ⟨h9_⟩
       have n10_ : Xe (gb279 ≠ gb284) := ⟨h10_⟩
       have n11_ : Xe (gb284 ≠ gb279) := ⟨h11_⟩
       have n12_ : Xe (Below w.heap.size w w14) := ⟨h12_⟩
       clear BK277
       clear BK278
       clear BK279
       clear HB
       clear h0_ h1_ h2_ h3_ h4_ h5_ h6_ h7_ h8_ h9_ h10_ h11_ h12_
       have BK277 := n0_
       have BK278 := n1_
       have BK279 := n2_
       have BK284 := n3_
       have GW284 := n4_
       have GE284 := n5_
       have NB277_284 := n6_
       have NB284_277 := n7_
       have NB278_284 := n8_
       have NB284_278 := n9_
       have NB279_284 := n10_
       have NB284_279 := n11_
       have HB := n12_
       clear n0_ n1_ n2_ n3_ n4_ n5_ n6_ n7_ n8_ n9_ n10_ n11_ n12_
       have hHeld : w14.cell? ⟨gb277, 0, none⟩ = some (.int .i64 a0_0) ∧ w14.cell? ⟨gb277, 1, none⟩ = some (.int .i64 a0_1) ∧ w14.cell? ⟨gb277, 2, none⟩ = some (.int .i64 a0_2) ∧ w14.cell? ⟨gb277, 3, none⟩ = some (.int .i64 a0_3) ∧ w14.cell? ⟨gb278, 0, none⟩ = some (.int .i64 a1_0) ∧ w14.cell? ⟨gb278, 1, none⟩ = some (.int .i64 a1_1) ∧ w14.cell? ⟨gb278, 2, none⟩ = some (.int .i64 a1_2) ∧ w14.cell? ⟨gb278, 3, none⟩ = some (.int .i64 a1_3) := hS_
       refine Xm (a' := ?_) ?_ ?_
       rotate_left
       ·simp only [Xk, Act.put, Xa, Xb, Xc]
        rfl
       refine one_ (i := 14) (N := some 20) #[Zt,Zt,Zt,Zt,Zt,Zt,Zt,Zt,Zt,Zt,Zt,Zt,Zt,Zt,Zt,Zt,Zt,Zt,Zt,Zf,Zf,Zt,Zf] rfl rfl (one_of HT_.out (by kernel_rfl)) (by decide) (fun K hK => ?_)
       refine goes_ Try.func72 (by kernel_rfl) rfl #[.int .i64 a0_2, .int .i64 a1_2] (by rfl) rfl rfl (by (try simp only [List.map_toArray, List.map_cons, List.map_nil]); first | done | rfl | (simp only [List.length_drop, List.length_take]; rfl)) ?_
       with_reducible refine (gatherumref04_low.calls a0_2 a1_2 t282 _ A5.out).mono ?_
       rintro e w' ⟨rfl, ⟨nd, rfl⟩⟩
       refine ⟨_, rfl, ?_⟩
       refine hK.out _ _ ⟨(Xd BK277.out 0).trans rfl, (Xd BK277.out 1).trans rfl, (Xd BK277.out 2).trans rfl, (Xd BK277.out 3).trans rfl, (Xd BK278.out 0).trans rfl, (Xd BK278.out 1).trans rfl, (Xd BK278.out 2).trans rfl, (Xd BK278.out 3).trans rfl⟩ (fun hHeld => ?_)
       clear hK K
       refine Xm (a' := ?_) ?_ ?_
       rotate_left
       ·show Act.put _ (some 20) _ = _
        simp only [Act.put, Xa, Xb, Xc, i64_w, i32_w]
        rfl
       exact Xm (by first | (simp only [Xk, Act.put, Xa, Xb, Xc]; done) | (simp only [Xk, Act.put, Xa, Xb, Xc]; rfl)) (hJ4_9_14_21 (gb284) _ ⟨hHeld, (bb_11 BK277.out), (bb_11 BK278.out), (bb_11 BK279.out), (bb_11 BK284.out), GW284.out, GE284.out, NB277_284.out, NB284_277.out, NB278_284.out, NB284_278.out, NB279_284.out, NB284_279.out, (hb_11 HB.out)⟩)
     ·skip
      rintro _ w13 ⟨hS_, h0_, h1_, h2_, h3_⟩
      have n0_ : Xe (w13.heap[gb277]? = some (.cells #[.int .i64 a0_0, .int .i64 a0_1, .int .i64 a0_2, .int .i64 a0_3] 37 (0, 0))) := ⟨h0_⟩
      have n1_ : Xe (w13.heap[gb278]? = some (.cells #[.int .i64 a1_0, .int .i64 a1_1, .int .i64 a1_2, .int .i64 a1_3] 37 (0, 0))) := ⟨h1_⟩
      have n2_ : Xe (w13.heap[gb279]? = some (.cells #[.int .i64 0, .int .i64 0, .int .i64 0, .int .i64 0] 37 (0, 0))) := ⟨h2_⟩
      have n3_ : Xe (Below w.heap.size w w13) := ⟨h3_⟩
      clear BK277
      clear BK278
      clear BK279
      clear HB
      clear h0_ h1_ h2_ h3_
      have BK277 := n0_
      have BK278 := n1_
      have BK279 := n2_
      have HB := n3_
      clear n0_ n1_ n2_ n3_
      have hHeld : w13.cell? ⟨gb277, 0, none⟩ = some (.int .i64 a0_0) ∧ w13.cell? ⟨gb277, 1, none⟩ = some (.int .i64 a0_1) ∧ w13.cell? ⟨gb277, 2, none⟩ = some (.int .i64 a0_2) ∧ w13.cell? ⟨gb277, 3, none⟩ = some (.int .i64 a0_3) ∧ w13.cell? ⟨gb278, 0, none⟩ = some (.int .i64 a1_0) ∧ w13.cell? ⟨gb278, 1, none⟩ = some (.int .i64 a1_1) ∧ w13.cell? ⟨gb278, 2, none⟩ = some (.int .i64 a1_2) ∧ w13.cell? ⟨gb278, 3, none⟩ = some (.int .i64 a1_3) := hS_
      refine Xm (a' := ?_) ?_ ?_
      rotate_left
      ·simp only [Xk, Act.put, Xa, Xb, Xc]
       rfl
      refine two_ (i := 19) (j := 21) (Ni := some 25) (Nj := some 5) #[Zt,Zt,Zt,Zt,Zt,Zt,Zt,Zt,Zt,Zt,Zt,Zt,Zt,Zt,Zt,Zt,Zt,Zt,Zt,Zt,Zf,Zf,Zf] #[Zt,Zt,Zt,Zt,Zt,Zt,Zt,Zt,Zt,Zt,Zt,Zt,Zt,Zt,Zt,Zt,Zt,Zt,Zt,Zf,Zf,Zt,Zf] rfl rfl rfl rfl (two_of HT_.out (by kernel_rfl)) (by decide) (by decide) (fun K hK => ?_) (fun K hK => ?_)
      ·skip
       refine goes_ Try.func72 (by kernel_rfl) rfl #[.int .i64 a0_3, .int .i64 a1_3] (by rfl) rfl rfl (by (try simp only [List.map_toArray, List.map_cons, List.map_nil]); first | done | rfl | (simp only [List.length_drop, List.length_take]; rfl)) ?_
       with_reducible refine (gatherumref04_low.calls a0_3 a1_3 t283 _ A6.out).mono ?_
       rintro e w' ⟨rfl, ⟨nd, rfl⟩⟩
       refine ⟨_, rfl, ?_⟩
       refine hK.out _ _ ⟨(Xd BK277.out 0).trans rfl, (Xd BK277.out 1).trans rfl, (Xd BK277.out 2).trans rfl, (Xd BK277.out 3).trans rfl, (Xd BK278.out 0).trans rfl, (Xd BK278.out 1).trans rfl, (Xd BK278.out 2).trans rfl, (Xd BK278.out 3).trans rfl⟩ (fun hHeld => ?_)
       clear hK K
       refine Xm (a' := ?_) ?_ ?_
       rotate_left
       ·show Act.put _ (some 25) _ = _
        simp only [Act.put, Xa, Xb, Xc, i64_w, i32_w]
        rfl
       refine pure_ (i := 20) (N := some 26) (v := ?_) (a' := ?_) #[Zt,Zt,Zt,Zt,Zt,Zt,Zt,Zt,Zt,Zt,Zt,Zt,Zt,Zt,Zt,Zt,Zt,Zt,Zt,Zt,Zt,Zf,Zf] rfl rfl (any_of HT_.out (by kernel_rfl)) (fun _ _ _ h => h) (Or.inl ⟨by rfl, ?_⟩) ?_ ?_
       rotate_left
       ·intro w'
        go_simp
        with_reducible rfl
       rotate_left
       ·simp only [Act.put, Xa, Xb, Xc, i64_w, i32_w]
        rfl
       exact Xm (by first | (simp only [Xk, Act.put, Xa, Xb, Xc]; done) | (simp only [Xk, Act.put, Xa, Xb, Xc]; rfl)) (hJ4_9_14_19 () _ ⟨hHeld, (bb_11 BK277.out), (bb_11 BK278.out), (bb_11 BK279.out), (hb_11 HB.out)⟩)
      ·skip
       refine box_step ?hg (N := 5) ?hd (cs := #[.int .i64 0, .int .i64 0, .int .i64 0, .int .i64 0]) (t := 37) ?hr ?_; (case hd => rfl); (case hg => rfl); (case hr => first | (go_simp; done) | (go_simp; rfl))
       intro gb284 hg w14 hbox hb
       have n0_ := Za (Xl (g := gb277) (o := .cells #[.int .i64 a0_0, .int .i64 a0_1, .int .i64 a0_2, .int .i64 a0_3] 37 (0, 0)) (bb_11 BK277.out) hb)
       have n1_ := Za (Xl (g := gb278) (o := .cells #[.int .i64 a1_0, .int .i64 a1_1, .int .i64 a1_2, .int .i64 a1_3] 37 (0, 0)) (bb_11 BK278.out) hb)
       have n2_ := Za (Xl (g := gb279) (o := .cells #[.int .i64 0, .int .i64 0, .int .i64 0, .int .i64 0] 37 (0, 0)) (bb_11 BK279.out) hb)
       have n3_ := Za (below_step (hb_11 HB.out) hb)
       have n4_ := Za (hbox)
       have n5_ := Za ((by rw [hg]; exact (Xn (hb_11 HB.out)) : w.heap.size ≤ gb284))
       have n6_ := Za ((by rw [hg]; exact (Xn (hb_11 HB.out)) : w.heap.size ≤ gb284))
       have n7_ := Za ((by rw [hg]; exact Nat.ne_of_lt (Xj (g := gb277) (o := .cells #[.int .i64 a0_0, .int .i64 a0_1, .int .i64 a0_2, .int .i64 a0_3] 37 (0, 0)) (bb_11 BK277.out)) : gb277 ≠ gb284))
       have n8_ := Za ((by rw [hg]; exact Nat.ne_of_gt (Xj (g := gb277) (o := .cells #[.int .i64 a0_0, .int .i64 a0_1, .int .i64 a0_2, .int .i64 a0_3] 37 (0, 0)) (bb_11 BK277.out)) : gb284 ≠ gb277))
       have n9_ := Za ((by rw [hg]; exact Nat.ne_of_lt (Xj (g := gb278) (o := .cells #[.int .i64 a1_0, .int .i64 a1_1, .int .i64 a1_2, .int .i64 a1_3] 37 (0, 0)) (bb_11 BK278.out)) : gb278 ≠ gb284))
       have n10_ := Za ((by rw [hg]; exact Nat.ne_of_gt (Xj (g := gb278) (o := .cells #[.int .i64 a1_0, .int .i64 a1_1, .int .i64 a1_2, .int .i64 a1_3] 37 (0, 0)) (bb_11 BK278.out)) : gb284 ≠ gb278))
       have n11_ := Za ((by rw [hg]; exact Nat.ne_of_lt (Xj (g := gb279) (o := .cells #[.int .i64 0, .int .i64 0, .int .i64 0, .int .i64 0] 37 (0, 0)) (bb_11 BK279.out)) : gb279 ≠ gb284))
       have n12_ := Za ((by rw [hg]; exact Nat.ne_of_gt (Xj (g := gb279) (o := .cells #[.int .i64 0, .int .i64 0, .int .i64 0, .int .i64 0] 37 (0, 0)) (bb_11 BK279.out)) : gb284 ≠ gb279))
       clear BK277
       clear BK278
       clear BK279
       clear HB
       have BK277 := n0_
       have BK278 := n1_
       have BK279 := n2_
       have HB := n3_
       have BK284 := n4_
       have GW284 := n5_
       have GE284 := n6_
       have NB277_284 := n7_
       have NB284_277 := n8_
       have NB278_284 := n9_
       have NB284_278 := n10_
       have NB279_284 := n11_
       have NB284_279 := n12_
       clear n0_ n1_ n2_ n3_ n4_ n5_ n6_ n7_ n8_ n9_ n10_ n11_ n12_
       clear hb hbox hg
       refine hK.out _ _ ⟨(Xd BK277.out 0).trans rfl, (Xd BK277.out 1).trans rfl, (Xd BK277.out 2).trans rfl, (Xd BK277.out 3).trans rfl, (Xd BK278.out 0).trans rfl, (Xd BK278.out 1).trans rfl, (Xd BK278.out 2).trans rfl, (Xd BK278.out 3).trans rfl⟩ (fun hHeld => ?_)
       clear hK K
       refine Xm (a' := ?_) ?_ ?_
       rotate_left
       ·show Act.put _ (some 5) _ = _
        simp only [Act.put, Xa, Xb, Xc, i64_w, i32_w]
        rfl
       exact Xm (by first | (simp only [Xk, Act.put, Xa, Xb, Xc]; done) | (simp only [Xk, Act.put, Xa, Xb, Xc]; rfl)) (hJ4_9_14_21 (gb284) _ ⟨hHeld, (bb_11 BK277.out), (bb_11 BK278.out), (bb_11 BK279.out), (bb_11 BK284.out), GW284.out, GE284.out, NB277_284.out, NB284_277.out, NB278_284.out, NB284_278.out, NB279_284.out, NB284_279.out, (hb_11 HB.out)⟩)
    ·skip
     rintro gb284 w14 ⟨hS_, h0_, h1_, h2_, h3_, h4_, h5_, h6_, h7_, h8_, h9_, h10_, h11_, h12_⟩
     have n0_ : Xe (w14.heap[gb277]? = some (.cells #[.int .i64 a0_0, .int .i64 a0_1, .int .i64 a0_2, .int .i64 a0_3] 37 (0, 0))) := ⟨h0_⟩
     have n1_ : Xe (w14.heap[gb278]? = some (.cells #[.int .i64 a1_0, .int .i64 a1_1, .int .i64 a1_2, .int .i64 a1_3] 37 (0, 0))) := ⟨h1_⟩
     have n2_ : Xe (w14.heap[gb279]? = some (.cells #[.int .i64 0, .int .i64 0, .int .i64 0, .int .i64 0] 37 (0, 0))) := ⟨h2_⟩
     have n3_ : Xe (w14.heap[gb284]? = some (.cells #[.int .i64 0, .int .i64 0, .int .i64 0, .int .i64 0] 37 (0, 0))) := ⟨h3_⟩
     have n4_ : Xe (w.heap.size ≤ gb284) := ⟨h4_⟩
     have n5_ : Xe (w.heap.size ≤ gb284) := ⟨h5_⟩
     have n6_ : Xe (gb277 ≠ gb284) := ⟨h6_⟩
     have n7_ : Xe (gb284 ≠ gb277) := ⟨h7_⟩
     have n8_ : Xe (gb278 ≠ gb284) := ⟨h8_⟩
     have n9_ : Xe (gb284 ≠ gb278) := ⟨h9_⟩
     have n10_ : Xe (gb279 ≠ gb284) := ⟨h10_⟩
     have n11_ : Xe (gb284 ≠ gb279) := ⟨h11_⟩
     have n12_ : Xe (Below w.heap.size w w14) := ⟨h12_⟩
     clear BK277
     clear BK278
     clear BK279
     clear HB
     clear h0_ h1_ h2_ h3_ h4_ h5_ h6_ h7_ h8_ h9_ h10_ h11_ h12_
     have BK277 := n0_
     have BK278 := n1_
     have BK279 := n2_
     have BK284 := n3_
     have GW284 := n4_
     have GE284 := n5_
     have NB277_284 := n6_
     have NB284_277 := n7_
     have NB278_284 := n8_
     have NB284_278 := n9_
     have NB279_284 := n10_
     have NB284_279 := n11_
     have HB := n12_
     clear n0_ n1_ n2_ n3_ n4_ n5_ n6_ n7_ n8_ n9_ n10_ n11_ n12_
     have hHeld : w14.cell? ⟨gb277, 0, none⟩ = some (.int .i64 a0_0) ∧ w14.cell? ⟨gb277, 1, none⟩ = some (.int .i64 a0_1) ∧ w14.cell? ⟨gb277, 2, none⟩ = some (.int .i64 a0_2) ∧ w14.cell? ⟨gb277, 3, none⟩ = some (.int .i64 a0_3) ∧ w14.cell? ⟨gb278, 0, none⟩ = some (.int .i64 a1_0) ∧ w14.cell? ⟨gb278, 1, none⟩ = some (.int .i64 a1_1) ∧ w14.cell? ⟨gb278, 2, none⟩ = some (.int .i64 a1_2) ∧ w14.cell? ⟨gb278, 3, none⟩ = some (.int .i64 a1_3) := hS_
     refine Xm (a' := ?_) ?_ ?_
     rotate_left
     ·simp only [Xk, Act.put, Xa, Xb, Xc]
      rfl
     refine one_ (i := 19) (N := some 25) #[Zt,Zt,Zt,Zt,Zt,Zt,Zt,Zt,Zt,Zt,Zt,Zt,Zt,Zt,Zt,Zt,Zt,Zt,Zt,Zt,Zf,Zt,Zf] rfl rfl (one_of HT_.out (by kernel_rfl)) (by decide) (fun K hK => ?_)
     refine goes_ Try.func72 (by kernel_rfl) rfl #[.int .i64 a0_3, .int .i64 a1_3] (by rfl) rfl rfl (by (try simp only [List.map_toArray, List.map_cons, List.map_nil]); first | done | rfl | (simp only [List.length_drop, List.length_take]; rfl)) ?_
     with_reducible refine (gatherumref04_low.calls a0_3 a1_3 t283 _ A6.out).mono ?_
     rintro e w' ⟨rfl, ⟨nd, rfl⟩⟩
     refine ⟨_, rfl, ?_⟩
     refine hK.out _ _ ⟨(Xd BK277.out 0).trans rfl, (Xd BK277.out 1).trans rfl, (Xd BK277.out 2).trans rfl, (Xd BK277.out 3).trans rfl, (Xd BK278.out 0).trans rfl, (Xd BK278.out 1).trans rfl, (Xd BK278.out 2).trans rfl, (Xd BK278.out 3).trans rfl⟩ (fun hHeld => ?_)
     clear hK K
     refine Xm (a' := ?_) ?_ ?_
     rotate_left
     ·show Act.put _ (some 25) _ = _
      simp only [Act.put, Xa, Xb, Xc, i64_w, i32_w]
      rfl
     refine pure_ (i := 20) (N := some 26) (v := ?_) (a' := ?_) #[Zt,Zt,Zt,Zt,Zt,Zt,Zt,Zt,Zt,Zt,Zt,Zt,Zt,Zt,Zt,Zt,Zt,Zt,Zt,Zt,Zt,Zt,Zf] rfl rfl (any_of HT_.out (by kernel_rfl)) (fun _ _ _ h => h) (Or.inl ⟨by rfl, ?_⟩) ?_ ?_
     rotate_left
     ·intro w'
      go_simp
      with_reducible rfl
     rotate_left
     ·simp only [Act.put, Xa, Xb, Xc, i64_w, i32_w]
      rfl
     exact Xm (by first | (simp only [Xk, Act.put, Xa, Xb, Xc]; done) | (simp only [Xk, Act.put, Xa, Xb, Xc]; rfl)) (hJ4_9_14_19_21 (gb284) _ ⟨hHeld, (bb_11 BK277.out), (bb_11 BK278.out), (bb_11 BK279.out), (bb_11 BK284.out), GW284.out, GE284.out, NB277_284.out, NB284_277.out, NB278_284.out, NB284_278.out, NB279_284.out, NB284_279.out, (hb_11 HB.out)⟩)
   ·skip
    rintro _ w13 ⟨hS_, h0_, h1_, h2_, h3_⟩
    have n0_ : Xe (w13.heap[gb277]? = some (.cells #[.int .i64 a0_0, .int .i64 a0_1, .int .i64 a0_2, .int .i64 a0_3] 37 (0, 0))) := ⟨h0_⟩
    have n1_ : Xe (w13.heap[gb278]? = some (.cells #[.int .i64 a1_0, .int .i64 a1_1, .int .i64 a1_2, .int .i64 a1_3] 37 (0, 0))) := ⟨h1_⟩
    have n2_ : Xe (w13.heap[gb279]? = some (.cells #[.int .i64 0, .int .i64 0, .int .i64 0, .int .i64 0] 37 (0, 0))) := ⟨h2_⟩
    have n3_ : Xe (Below w.heap.size w w13) := ⟨h3_⟩
    clear BK277
    clear BK278
    clear BK279
    clear HB
    clear h0_ h1_ h2_ h3_
    have BK277 := n0_
    have BK278 := n1_
    have BK279 := n2_
    have HB := n3_
    clear n0_ n1_ n2_ n3_
    have hHeld : w13.cell? ⟨gb277, 0, none⟩ = some (.int .i64 a0_0) ∧ w13.cell? ⟨gb277, 1, none⟩ = some (.int .i64 a0_1) ∧ w13.cell? ⟨gb277, 2, none⟩ = some (.int .i64 a0_2) ∧ w13.cell? ⟨gb277, 3, none⟩ = some (.int .i64 a0_3) ∧ w13.cell? ⟨gb278, 0, none⟩ = some (.int .i64 a1_0) ∧ w13.cell? ⟨gb278, 1, none⟩ = some (.int .i64 a1_1) ∧ w13.cell? ⟨gb278, 2, none⟩ = some (.int .i64 a1_2) ∧ w13.cell? ⟨gb278, 3, none⟩ = some (.int .i64 a1_3) := hS_
    refine Xm (a' := ?_) ?_ ?_
    rotate_left
    ·simp only [Xk, Act.put, Xa, Xb, Xc]
     rfl
    refine one_ (i := 21) (N := some 5) #[Zt,Zt,Zt,Zt,Zt,Zt,Zt,Zt,Zt,Zt,Zt,Zt,Zt,Zt,Zt,Zt,Zt,Zt,Zt,Zt,Zt,Zt,Zf] rfl rfl (one_of HT_.out (by kernel_rfl)) (by decide) (fun K hK => ?_)
    refine box_step ?hg (N := 5) ?hd (cs := #[.int .i64 0, .int .i64 0, .int .i64 0, .int .i64 0]) (t := 37) ?hr ?_; (case hd => rfl); (case hg => rfl); (case hr => first | (go_simp; done) | (go_simp; rfl))
    intro gb284 hg w14 hbox hb
    have n0_ := Za (Xl (g := gb277) (o := .cells #[.int .i64 a0_0, .int .i64 a0_1, .int .i64 a0_2, .int .i64 a0_3] 37 (0, 0)) (bb_11 BK277.out) hb)
    have n1_ := Za (Xl (g := gb278) (o := .cells #[.int .i64 a1_0, .int .i64 a1_1, .int .i64 a1_2, .int .i64 a1_3] 37 (0, 0)) (bb_11 BK278.out) hb)
    have n2_ := Za (Xl (g := gb279) (o := .cells #[.int .i64 0, .int .i64 0, .int .i64 0, .int .i64 0] 37 (0, 0)) (bb_11 BK279.out) hb)
    have n3_ := Za (below_step (hb_11 HB.out) hb)
    have n4_ := Za (hbox)
    have n5_ := Za ((by rw [hg]; exact (Xn (hb_11 HB.out)) : w.heap.size ≤ gb284))
    have n6_ := Za ((by rw [hg]; exact (Xn (hb_11 HB.out)) : w.heap.size ≤ gb284))
    have n7_ := Za ((by rw [hg]; exact Nat.ne_of_lt (Xj (g := gb277) (o := .cells #[.int .i64 a0_0, .int .i64 a0_1, .int .i64 a0_2, .int .i64 a0_3] 37 (0, 0)) (bb_11 BK277.out)) : gb277 ≠ gb284))
    have n8_ := Za ((by rw [hg]; exact Nat.ne_of_gt (Xj (g := gb277) (o := .cells #[.int .i64 a0_0, .int .i64 a0_1, .int .i64 a0_2, .int .i64 a0_3] 37 (0, 0)) (bb_11 BK277.out)) : gb284 ≠ gb277))
    have n9_ := Za ((by rw [hg]; exact Nat.ne_of_lt (Xj (g := gb278) (o := .cells #[.int .i64 a1_0, .int .i64 a1_1, .int .i64 a1_2, .int .i64 a1_3] 37 (0, 0)) (bb_11 BK278.out)) : gb278 ≠ gb284))
    have n10_ := Za ((by rw [hg]; exact Nat.ne_of_gt (Xj (g := gb278) (o := .cells #[.int .i64 a1_0, .int .i64 a1_1, .int .i64 a1_2, .int .i64 a1_3] 37 (0, 0)) (bb_11 BK278.out)) : gb284 ≠ gb278))
    have n11_ := Za ((by rw [hg]; exact Nat.ne_of_lt (Xj (g := gb279) (o := .cells #[.int .i64 0, .int .i64 0, .int .i64 0, .int .i64 0] 37 (0, 0)) (bb_11 BK279.out)) : gb279 ≠ gb284))
    have n12_ := Za ((by rw [hg]; exact Nat.ne_of_gt (Xj (g := gb279) (o := .cells #[.int .i64 0, .int .i64 0, .int .i64 0, .int .i64 0] 37 (0, 0)) (bb_11 BK279.out)) : gb284 ≠ gb279))
    clear BK277
    clear BK278
    clear BK279
    clear HB
    have BK277 := n0_
    have BK278 := n1_
    have BK279 := n2_
    have HB := n3_
    have BK284 := n4_
    have GW284 := n5_
    have GE284 := n6_
    have NB277_284 := n7_
    have NB284_277 := n8_
    have NB278_284 := n9_
    have NB284_278 := n10_
    have NB279_284 := n11_
    have NB284_279 := n12_
    clear n0_ n1_ n2_ n3_ n4_ n5_ n6_ n7_ n8_ n9_ n10_ n11_ n12_
    clear hb hbox hg
    refine hK.out _ _ ⟨(Xd BK277.out 0).trans rfl, (Xd BK277.out 1).trans rfl, (Xd BK277.out 2).trans rfl, (Xd BK277.out 3).trans rfl, (Xd BK278.out 0).trans rfl, (Xd BK278.out 1).trans rfl, (Xd BK278.out 2).trans rfl, (Xd BK278.out 3).trans rfl⟩ (fun hHeld => ?_)
    clear hK K
    refine Xm (a' := ?_) ?_ ?_
    rotate_left
    ·show Act.put _ (some 5) _ = _
     simp only [Act.put, Xa, Xb, Xc, i64_w, i32_w]
     rfl
    exact Xm (by first | (simp only [Xk, Act.put, Xa, Xb, Xc]; done) | (simp only [Xk, Act.put, Xa, Xb, Xc]; rfl)) (hJ4_9_14_19_21 (gb284) _ ⟨hHeld, (bb_11 BK277.out), (bb_11 BK278.out), (bb_11 BK279.out), (bb_11 BK284.out), GW284.out, GE284.out, NB277_284.out, NB284_277.out, NB278_284.out, NB284_278.out, NB279_284.out, NB284_279.out, (hb_11 HB.out)⟩)
  rintro gb284 w14 ⟨hS_, h0_, h1_, h2_, h3_, h4_, h5_, h6_, h7_, h8_, h9_, h10_, h11_, h12_⟩
  have n0_ : Xe (w14.heap[gb277]? = some (.cells #[.int .i64 a0_0, .int .i64 a0_1, .int .i64 a0_2, .int .i64 a0_3] 37 (0, 0))) := ⟨h0_⟩
  have n1_ : Xe (w14.heap[gb278]? = some (.cells #[.int .i64 a1_0, .int .i64 a1_1, .int .i64 a1_2, .int .i64 a1_3] 37 (0, 0))) := ⟨h1_⟩
  have n2_ : Xe (w14.heap[gb279]? = some (.cells #[.int .i64 0, .int .i64 0, .int .i64 0, .int .i64 0] 37 (0, 0))) := ⟨h2_⟩
  have n3_ : Xe (w14.heap[gb284]? = some (.cells #[.int .i64 0, .int .i64 0, .int .i64 0, .int .i64 0] 37 (0, 0))) := ⟨h3_⟩
  have n4_ : Xe (w.heap.size ≤ gb284) := ⟨h4_⟩
  have n5_ : Xe (w.heap.size ≤ gb284) := ⟨h5_⟩
  have n6_ : Xe (gb277 ≠ gb284) := ⟨h6_⟩
  have n7_ : Xe (gb284 ≠ gb277) := ⟨h7_⟩
  have n8_ : Xe (gb278 ≠ gb284) := ⟨h8_⟩
  have n9_ : Xe (gb284 ≠ gb278) := ⟨h9_⟩
  have n10_ : Xe (gb279 ≠ gb284) := ⟨h10_⟩
  have n11_ : Xe (gb284 ≠ gb279) := ⟨h11_⟩
  have n12_ : Xe (Below w.heap.size w w14) := ⟨h12_⟩
  clear BK277
  clear BK278
  clear BK279
  clear HB
  clear h0_ h1_ h2_ h3_ h4_ h5_ h6_ h7_ h8_ h9_ h10_ h11_ h12_
  have BK277 := n0_
  have BK278 := n1_
  have BK279 := n2_
  have BK284 := n3_
  have GW284 := n4_
  have GE284 := n5_
  have NB277_284 := n6_
  have NB284_277 := n7_
  have NB278_284 := n8_
  have NB284_278 := n9_
  have NB279_284 := n10_
  have NB284_279 := n11_
  have HB := n12_
  clear n0_ n1_ n2_ n3_ n4_ n5_ n6_ n7_ n8_ n9_ n10_ n11_ n12_
  have hHeld : w14.cell? ⟨gb277, 0, none⟩ = some (.int .i64 a0_0) ∧ w14.cell? ⟨gb277, 1, none⟩ = some (.int .i64 a0_1) ∧ w14.cell? ⟨gb277, 2, none⟩ = some (.int .i64 a0_2) ∧ w14.cell? ⟨gb277, 3, none⟩ = some (.int .i64 a0_3) ∧ w14.cell? ⟨gb278, 0, none⟩ = some (.int .i64 a1_0) ∧ w14.cell? ⟨gb278, 1, none⟩ = some (.int .i64 a1_1) ∧ w14.cell? ⟨gb278, 2, none⟩ = some (.int .i64 a1_2) ∧ w14.cell? ⟨gb278, 3, none⟩ = some (.int .i64 a1_3) := hS_
  refine Xm (a' := ?_) ?_ ?_
  rotate_left
  ·simp only [Xk, Act.put, Xa, Xb, Xc]
   rfl
  refine one_ (i := 22) (N := none) #[Zt,Zt,Zt,Zt,Zt,Zt,Zt,Zt,Zt,Zt,Zt,Zt,Zt,Zt,Zt,Zt,Zt,Zt,Zt,Zt,Zt,Zt,Zt] rfl rfl (one_of HT_.out (by kernel_rfl)) (by decide) (fun K hK => ?_)
  have hs15 : w14.cell? ⟨gb284, 0, none⟩ = some (.int .i64 0) := (Xd BK284.out 0).trans rfl
  have hfs15 := Xq BK284.out 0
  have hns15_0 := NB277_284.out
  have hns15_1 := NB278_284.out
  have hns15_2 := NB279_284.out
  have hms15_0 := NB284_277.out
  have hms15_1 := NB284_278.out
  have hms15_2 := NB284_279.out
  have hs16 : w14.cell? ⟨gb284, 1, none⟩ = some (.int .i64 0) := (Xd BK284.out 1).trans rfl
  have hfs16 := Xq BK284.out 1
  have hns16_0 := NB277_284.out
  have hns16_1 := NB278_284.out
  have hns16_2 := NB279_284.out
  have hms16_0 := NB284_277.out
  have hms16_1 := NB284_278.out
  have hms16_2 := NB284_279.out
  have hs17 : w14.cell? ⟨gb284, 2, none⟩ = some (.int .i64 0) := (Xd BK284.out 2).trans rfl
  have hfs17 := Xq BK284.out 2
  have hns17_0 := NB277_284.out
  have hns17_1 := NB278_284.out
  have hns17_2 := NB279_284.out
  have hms17_0 := NB284_277.out
  have hms17_1 := NB284_278.out
  have hms17_2 := NB284_279.out
  have hs18 : w14.cell? ⟨gb284, 3, none⟩ = some (.int .i64 0) := (Xd BK284.out 3).trans rfl
  have hfs18 := Xq BK284.out 3
  have hns18_0 := NB277_284.out
  have hns18_1 := NB278_284.out
  have hns18_2 := NB279_284.out
  have hms18_0 := NB284_277.out
  have hms18_1 := NB284_278.out
  have hms18_2 := NB284_279.out
  refine skip_ (w1 := ?_) (by rfl) rfl ?_ ?_
  rotate_left
  ·go_simp
   rfl
  refine hK.out _ _ ⟨((Xf (p := ⟨gb284, _, none⟩) NB277_284.out _).trans (((Xf (p := ⟨gb284, _, none⟩) NB277_284.out _).trans (((Xf (p := ⟨gb284, _, none⟩) NB277_284.out _).trans (((Xf (p := ⟨gb284, _, none⟩) NB277_284.out _).trans (hHeld.1)))))))), ((Xf (p := ⟨gb284, _, none⟩) NB277_284.out _).trans (((Xf (p := ⟨gb284, _, none⟩) NB277_284.out _).trans (((Xf (p := ⟨gb284, _, none⟩) NB277_284.out _).trans (((Xf (p := ⟨gb284, _, none⟩) NB277_284.out _).trans (hHeld.2.1)))))))), ((Xf (p := ⟨gb284, _, none⟩) NB277_284.out _).trans (((Xf (p := ⟨gb284, _, none⟩) NB277_284.out _).trans (((Xf (p := ⟨gb284, _, none⟩) NB277_284.out _).trans (((Xf (p := ⟨gb284, _, none⟩) NB277_284.out _).trans (hHeld.2.2.1)))))))), ((Xf (p := ⟨gb284, _, none⟩) NB277_284.out _).trans (((Xf (p := ⟨gb284, _, none⟩) NB277_284.out _).trans (((Xf (p := ⟨gb284, _, none⟩) NB277_284.out _).trans (((Xf (p := ⟨gb284, _, none⟩) NB277_284.out _).trans (hHeld.2.2.2.1)))))))), ((Xf (p := ⟨gb284, _, none⟩) NB278_284.out _).trans (((Xf (p := ⟨gb284, _, none⟩) NB278_284.out _).trans (((Xf (p := ⟨gb284, _, none⟩) NB278_284.out _).trans (((Xf (p := ⟨gb284, _, none⟩) NB278_284.out _).trans (hHeld.2.2.2.2.1)))))))), ((Xf (p := ⟨gb284, _, none⟩) NB278_284.out _).trans (((Xf (p := ⟨gb284, _, none⟩) NB278_284.out _).trans (((Xf (p := ⟨gb284, _, none⟩) NB278_284.out _).trans (((Xf (p := ⟨gb284, _, none⟩) NB278_284.out _).trans (hHeld.2.2.2.2.2.1)))))))), ((Xf (p := ⟨gb284, _, none⟩) NB278_284.out _).trans (((Xf (p := ⟨gb284, _, none⟩) NB278_284.out _).trans (((Xf (p := ⟨gb284, _, none⟩) NB278_284.out _).trans (((Xf (p := ⟨gb284, _, none⟩) NB278_284.out _).trans (hHeld.2.2.2.2.2.2.1)))))))), ((Xf (p := ⟨gb284, _, none⟩) NB278_284.out _).trans (((Xf (p := ⟨gb284, _, none⟩) NB278_284.out _).trans (((Xf (p := ⟨gb284, _, none⟩) NB278_284.out _).trans (((Xf (p := ⟨gb284, _, none⟩) NB278_284.out _).trans (hHeld.2.2.2.2.2.2.2))))))))⟩ (fun hHeld => ?_)
  clear hK K
  refine done_ (done_of HT_.out (by kernel_rfl)) ?_
  have hnb19 := NB284_277.out
  have hnc19 := NB277_284.out
  have hnb20 := NB284_278.out
  have hnc20 := NB278_284.out
  have hnb21 := NB284_279.out
  have hnc21 := NB279_284.out
  have hcz22_0 : w14.cell? ⟨gb284, 0, none⟩ = some (.int .i64 0) := (Xd BK284.out 0).trans rfl
  have hcz22_1 : w14.cell? ⟨gb284, 1, none⟩ = some (.int .i64 0) := (Xd BK284.out 1).trans rfl
  have hcz22_2 : w14.cell? ⟨gb284, 2, none⟩ = some (.int .i64 0) := (Xd BK284.out 2).trans rfl
  have hcz22_3 : w14.cell? ⟨gb284, 3, none⟩ = some (.int .i64 0) := (Xd BK284.out 3).trans rfl
  have hfz22_0 := Xq BK284.out 0
  have hfz22_1 := Xq BK284.out 1
  have hfz22_2 := Xq BK284.out 2
  have hfz22_3 := Xq BK284.out 3
  try go_wp2_with (first | ((with_reducible refine gate_callee (f := 18) rfl ?_); refine goesL_ (some 28) rfl rfl Try.func18 (by kernel_rfl) rfl #[.agg #[.int .i64 t280, .int .i64 t281, .int .i64 t282, .int .i64 t283]] rfl (by (try simp only [List.map_toArray, List.map_cons, List.map_nil]); first | done | rfl | (simp only [List.length_drop, List.length_take]; rfl)) ?_; (with_reducible refine (gatherumref04_Empty.calls t280 t281 t282 t283 Zt _ A7.out).mono ?_); rintro e w23 ⟨rfl, hb⟩; refine ⟨_, rfl, ?_⟩; have n0_ := Za (Xl (g := gb277) (o := .cells #[.int .i64 a0_0, .int .i64 a0_1, .int .i64 a0_2, .int .i64 a0_3] 37 (0, 0)) (by (with_reducible repeat (first | refine Xg ?_ _ | refine Xi ?_ | refine Xh ?_ _)); refine blk_far ?_ NB277_284.out _; (with_reducible repeat (first | refine Xg ?_ _ | refine Xi ?_ | refine Xh ?_ _)); refine blk_far ?_ NB277_284.out _; (with_reducible repeat (first | refine Xg ?_ _ | refine Xi ?_ | refine Xh ?_ _)); refine blk_far ?_ NB277_284.out _; (with_reducible repeat (first | refine Xg ?_ _ | refine Xi ?_ | refine Xh ?_ _)); refine blk_far ?_ NB277_284.out _; (with_reducible repeat (first | refine Xg ?_ _ | refine Xi ?_ | refine Xh ?_ _)); exact BK277.out) hb); have n1_ := Za (Xl (g := gb278) (o := .cells #[.int .i64 a1_0, .int .i64 a1_1, .int .i64 a1_2, .int .i64 a1_3] 37 (0, 0)) (by (with_reducible repeat (first | refine Xg ?_ _ | refine Xi ?_ | refine Xh ?_ _)); refine blk_far ?_ NB278_284.out _; (with_reducible repeat (first | refine Xg ?_ _ | refine Xi ?_ | refine Xh ?_ _)); refine blk_far ?_ NB278_284.out _; (with_reducible repeat (first | refine Xg ?_ _ | refine Xi ?_ | refine Xh ?_ _)); refine blk_far ?_ NB278_284.out _; (with_reducible repeat (first | refine Xg ?_ _ | refine Xi ?_ | refine Xh ?_ _)); refine blk_far ?_ NB278_284.out _; (with_reducible repeat (first | refine Xg ?_ _ | refine Xi ?_ | refine Xh ?_ _)); exact BK278.out) hb); have n2_ := Za (Xl (g := gb279) (o := .cells #[.int .i64 0, .int .i64 0, .int .i64 0, .int .i64 0] 37 (0, 0)) (by (with_reducible repeat (first | refine Xg ?_ _ | refine Xi ?_ | refine Xh ?_ _)); refine blk_far ?_ NB279_284.out _; (with_reducible repeat (first | refine Xg ?_ _ | refine Xi ?_ | refine Xh ?_ _)); refine blk_far ?_ NB279_284.out _; (with_reducible repeat (first | refine Xg ?_ _ | refine Xi ?_ | refine Xh ?_ _)); refine blk_far ?_ NB279_284.out _; (with_reducible repeat (first | refine Xg ?_ _ | refine Xi ?_ | refine Xh ?_ _)); refine blk_far ?_ NB279_284.out _; (with_reducible repeat (first | refine Xg ?_ _ | refine Xi ?_ | refine Xh ?_ _)); exact BK279.out) hb); have n3_ := Za (Xl (g := gb284) (o := .cells #[.int .i64 t280, .int .i64 t281, .int .i64 t282, .int .i64 t283] 37 (0, 0)) (by (with_reducible repeat (first | refine Xg ?_ _ | refine Xi ?_ | refine Xh ?_ _)); refine blk_put (cs := #[.int .i64 t280, .int .i64 t281, .int .i64 t282, .int .i64 0]) ?_ 3 _ rfl; (with_reducible repeat (first | refine Xg ?_ _ | refine Xi ?_ | refine Xh ?_ _)); refine blk_put (cs := #[.int .i64 t280, .int .i64 t281, .int .i64 0, .int .i64 0]) ?_ 2 _ rfl; (with_reducible repeat (first | refine Xg ?_ _ | refine Xi ?_ | refine Xh ?_ _)); refine blk_put (cs := #[.int .i64 t280, .int .i64 0, .int .i64 0, .int .i64 0]) ?_ 1 _ rfl; (with_reducible repeat (first | refine Xg ?_ _ | refine Xi ?_ | refine Xh ?_ _)); refine blk_put (cs := #[.int .i64 0, .int .i64 0, .int .i64 0, .int .i64 0]) ?_ 0 _ rfl; (with_reducible repeat (first | refine Xg ?_ _ | refine Xi ?_ | refine Xh ?_ _)); exact BK284.out) hb); have n4_ := Za (below_step (hb_11 HB.out) hb); clear BK277; clear BK278; clear BK279; clear BK284; clear HB; have BK277 := n0_; have BK278 := n1_; have BK279 := n2_; have BK284 := n3_; have HB := n4_; clear n0_ n1_ n2_ n3_ n4_; (try clear hb); (try clear hb2); (try clear hk); (try clear hi); have hnb24 := NB279_277.out; have hnc24 := NB277_279.out; have hnb25 := NB279_278.out; have hnc25 := NB278_279.out; have hcz26_0 : w23.cell? ⟨gb279, 0, none⟩ = some (.int .i64 0) := (Xd BK279.out 0).trans rfl; have hcz26_1 : w23.cell? ⟨gb279, 1, none⟩ = some (.int .i64 0) := (Xd BK279.out 1).trans rfl; have hcz26_2 : w23.cell? ⟨gb279, 2, none⟩ = some (.int .i64 0) := (Xd BK279.out 2).trans rfl; have hcz26_3 : w23.cell? ⟨gb279, 3, none⟩ = some (.int .i64 0) := (Xd BK279.out 3).trans rfl; have hfz26_0 := Xq BK279.out 0; have hfz26_1 := Xq BK279.out 1; have hfz26_2 := Xq BK279.out 2; have hfz26_3 := Xq BK279.out 3))
  refine bodyPost_ret (results_cell_row rfl _ _ gb279 37 #[.int .i64 0, .int .i64 0, .int .i64 0, .int .i64 0] (0, 0) _ rfl (by (with_reducible repeat (first | refine Xg ?_ _ | refine Xi ?_ | refine Xh ?_ _)); refine blk_put (cs := #[.int .i64 0, .int .i64 0, .int .i64 0, .int .i64 0]) ?_ 3 _ rfl; (with_reducible repeat (first | refine Xg ?_ _ | refine Xi ?_ | refine Xh ?_ _)); refine blk_put (cs := #[.int .i64 0, .int .i64 0, .int .i64 0, .int .i64 0]) ?_ 2 _ rfl; (with_reducible repeat (first | refine Xg ?_ _ | refine Xi ?_ | refine Xh ?_ _)); refine blk_put (cs := #[.int .i64 0, .int .i64 0, .int .i64 0, .int .i64 0]) ?_ 1 _ rfl; (with_reducible repeat (first | refine Xg ?_ _ | refine Xi ?_ | refine Xh ?_ _)); refine blk_put (cs := #[.int .i64 0, .int .i64 0, .int .i64 0, .int .i64 0]) ?_ 0 _ rfl; (with_reducible repeat (first | refine Xg ?_ _ | refine Xi ?_ | refine Xh ?_ _)); exact BK279.out) Try.underlying37 rfl (by kernel_rfl)) rfl ?_
  exact ⟨by first | rfl | (simp [errW_none, errW_some] <;> rfl) | (simp [*, errW_none, errW_some] <;> rfl), by repeat (first | (with_reducible first | exact HB.out | apply below_alloc | apply pw_below_drewN | apply below_drew1 | refine below_set ?_ GE277.out | refine below_set ?_ GE278.out | refine below_set ?_ GE279.out | refine below_set ?_ GE284.out) | exact HB.out)⟩
 ·replace c8 := Bool.eq_false_iff.mpr c8
  subst c8
  have H1 : (some (t280, t281, t282, t283)) = some (r1, r2, r3, r4) := by rw [if_neg (show ¬ (Zf = Zt) by decide)] at H; exact H
  clear H
  have H := H1
  clear H1
  simp only [Option.some.injEq, Prod.mk.injEq] at H
  obtain ⟨rfl, rfl, rfl, rfl⟩ := H
  go_enter Try.func46, Try.ntmps46
  try go_wp2_with (first | ((with_reducible refine gate_dst (N := 2) rfl ?_); refine box_event ?hg (N := 2) ?hd (cs := #[.int .i64 a0_0, .int .i64 a0_1, .int .i64 a0_2, .int .i64 a0_3]) (t := 37) ?hr ?_; (case hd => rfl); (case hg => rfl); (case hr => first | (go_simp; done) | (go_simp; rfl)); intro gb277 hg w27 hbox hb; have n0_ := Za (below_step (hb_11 HB.out) hb); have n1_ := Za (hbox); have n2_ := Za ((by rw [hg]; exact (Xn (hb_11 HB.out)) : w.heap.size ≤ gb277)); have n3_ := Za ((by rw [hg]; exact (Xn (hb_11 HB.out)) : w.heap.size ≤ gb277)); clear HB; have HB := n0_; have BK277 := n1_; have GW277 := n2_; have GE277 := n3_; clear n0_ n1_ n2_ n3_; clear hb hbox hg) | ((with_reducible refine gate_dst (N := 3) rfl ?_); refine box_event ?hg (N := 3) ?hd (cs := #[.int .i64 a1_0, .int .i64 a1_1, .int .i64 a1_2, .int .i64 a1_3]) (t := 37) ?hr ?_; (case hd => rfl); (case hg => rfl); (case hr => first | (go_simp; done) | (go_simp; rfl)); intro gb278 hg w28 hbox hb; have n0_ := Za (Xl (g := gb277) (o := .cells #[.int .i64 a0_0, .int .i64 a0_1, .int .i64 a0_2, .int .i64 a0_3] 37 (0, 0)) (bb_11 BK277.out) hb); have n1_ := Za (below_step (hb_11 HB.out) hb); have n2_ := Za (hbox); have n3_ := Za ((by rw [hg]; exact (Xn (hb_11 HB.out)) : w.heap.size ≤ gb278)); have n4_ := Za ((by rw [hg]; exact (Xn (hb_11 HB.out)) : w.heap.size ≤ gb278)); have n5_ := Za ((by rw [hg]; exact Nat.ne_of_lt (Xj (g := gb277) (o := .cells #[.int .i64 a0_0, .int .i64 a0_1, .int .i64 a0_2, .int .i64 a0_3] 37 (0, 0)) (bb_11 BK277.out)) : gb277 ≠ gb278)); have n6_ := Za ((by rw [hg]; exact Nat.ne_of_gt (Xj (g := gb277) (o := .cells #[.int .i64 a0_0, .int .i64 a0_1, .int .i64 a0_2, .int .i64 a0_3] 37 (0, 0)) (bb_11 BK277.out)) : gb278 ≠ gb277)); clear BK277; clear HB; have BK277 := n0_; have HB := n1_; have BK278 := n2_; have GW278 := n3_; have GE278 := n4_; have NB277_278 := n5_; have NB278_277 := n6_; clear n0_ n1_ n2_ n3_ n4_ n5_ n6_; clear hb hbox hg) | ((with_reducible refine gate_dst (N := 4) rfl ?_); refine box_event ?hg (N := 4) ?hd (cs := #[.int .i64 0, .int .i64 0, .int .i64 0, .int .i64 0]) (t := 37) ?hr ?_; (case hd => rfl); (case hg => rfl); (case hr => first | (go_simp; done) | (go_simp; rfl)); intro gb279 hg w29 hbox hb; have n0_ := Za (Xl (g := gb277) (o := .cells #[.int .i64 a0_0, .int .i64 a0_1, .int .i64 a0_2, .int .i64 a0_3] 37 (0, 0)) (bb_11 BK277.out) hb); have n1_ := Za (Xl (g := gb278) (o := .cells #[.int .i64 a1_0, .int .i64 a1_1, .int .i64 a1_2, .int .i64 a1_3] 37 (0, 0)) (bb_11 BK278.out) hb); have n2_ := Za (below_step (hb_11 HB.out) hb); have n3_ := Za (hbox); have n4_ := Za ((by rw [hg]; exact (Xn (hb_11 HB.out)) : w.heap.size ≤ gb279)); have n5_ := Za ((by rw [hg]; exact (Xn (hb_11 HB.out)) : w.heap.size ≤ gb279)); have n6_ := Za ((by rw [hg]; exact Nat.ne_of_lt (Xj (g := gb277) (o := .cells #[.int .i64 a0_0, .int .i64 a0_1, .int .i64 a0_2, .int .i64 a0_3] 37 (0, 0)) (bb_11 BK277.out)) : gb277 ≠ gb279)); have n7_ := Za ((by rw [hg]; exact Nat.ne_of_gt (Xj (g := gb277) (o := .cells #[.int .i64 a0_0, .int .i64 a0_1, .int .i64 a0_2, .int .i64 a0_3] 37 (0, 0)) (bb_11 BK277.out)) : gb279 ≠ gb277)); have n8_ := Za ((by rw [hg]; exact Nat.ne_of_lt (Xj (g := gb278) (o := .cells #[.int .i64 a1_0, .int .i64 a1_1, .int .i64 a1_2, .int .i64 a1_3] 37 (0, 0)) (bb_11 BK278.out)) : gb278 ≠ gb279)); have n9_ := Za ((by rw [hg]; exact Nat.ne_of_gt (Xj (g := gb278) (o := .cells #[.int .i64 a1_0, .int .i64 a1_1, .int .i64 a1_2, .int .i64 a1_3] 37 (0, 0)) (bb_11 BK278.out)) : gb279 ≠ gb278)); clear BK277; clear BK278; clear HB; have BK277 := n0_; have BK278 := n1_; have HB := n2_; have BK279 := n3_; have GW279 := n4_; have GE279 := n5_; have NB277_279 := n6_; have NB279_277 := n7_; have NB278_279 := n8_; have NB279_278 := n9_; clear n0_ n1_ n2_ n3_ n4_ n5_ n6_ n7_ n8_ n9_; clear hb hbox hg))
  have n0_ := Za (Xi BK277.out)
  have n1_ := Za (Xi BK278.out)
  have n2_ := Za (Xi BK279.out)
  have n3_ := Za (below_drew1 HB.out)
  clear BK277
  clear BK278
  clear BK279
  clear HB
  have BK277 := n0_
  have BK278 := n1_
  have BK279 := n2_
  have HB := n3_
  clear n0_ n1_ n2_ n3_
  refine start_ (n := 23) (S := fun w' => w'.cell? ⟨gb277, 0, none⟩ = some (.int .i64 a0_0) ∧ w'.cell? ⟨gb277, 1, none⟩ = some (.int .i64 a0_1) ∧ w'.cell? ⟨gb277, 2, none⟩ = some (.int .i64 a0_2) ∧ w'.cell? ⟨gb277, 3, none⟩ = some (.int .i64 a0_3) ∧ w'.cell? ⟨gb278, 0, none⟩ = some (.int .i64 a1_0) ∧ w'.cell? ⟨gb278, 1, none⟩ = some (.int .i64 a1_1) ∧ w'.cell? ⟨gb278, 2, none⟩ = some (.int .i64 a1_2) ∧ w'.cell? ⟨gb278, 3, none⟩ = some (.int .i64 a1_3)) (ds := []) #[Zf,Zf,Zf,Zf,Zf,Zf,Zf,Zf,Zf,Zf,Zf,Zf,Zf,Zf,Zf,Zf,Zf,Zf,Zf,Zf,Zf,Zf,Zf] (by kernel_rfl) rfl rfl ⟨(Xd BK277.out 0).trans rfl, (Xd BK277.out 1).trans rfl, (Xd BK277.out 2).trans rfl, (Xd BK277.out 3).trans rfl, (Xd BK278.out 0).trans rfl, (Xd BK278.out 1).trans rfl, (Xd BK278.out 2).trans rfl, (Xd BK278.out 3).trans rfl⟩ (fun hHeld => ?_); refine with_tabW gatherumref04_Meet.tab1 gatherumref04_Meet.bits1 (fun HT_ HW_ => ?_)
  generalize w29.drew = w30 at BK277 BK278 BK279 HB hHeld ⊢
  refine pure_ (i := 0) (N := some 6) (v := ?_) (a' := ?_) #[Zt,Zf,Zf,Zf,Zf,Zf,Zf,Zf,Zf,Zf,Zf,Zf,Zf,Zf,Zf,Zf,Zf,Zf,Zf,Zf,Zf,Zf,Zf] rfl rfl (any_of HT_.out (by kernel_rfl)) (fun _ _ _ h => h) (Or.inl ⟨by rfl, ?_⟩) ?_ ?_
  rotate_left
  ·intro w'
   go_simp
   with_reducible rfl
  rotate_left
  ·simp only [Act.put, Xa, Xb, Xc, i64_w, i32_w]
   rfl
  refine pure_ (i := 2) (N := some 8) (v := ?_) (a' := ?_) #[Zt,Zf,Zt,Zf,Zf,Zf,Zf,Zf,Zf,Zf,Zf,Zf,Zf,Zf,Zf,Zf,Zf,Zf,Zf,Zf,Zf,Zf,Zf] rfl rfl (any_of HT_.out (by kernel_rfl)) (fun _ _ _ h => h) (Or.inl ⟨by rfl, ?_⟩) ?_ ?_
  rotate_left
  ·intro w'
   go_simp
   with_reducible rfl
  rotate_left
  ·simp only [Act.put, Xa, Xb, Xc, i64_w, i32_w]
   rfl
  refine pure_ (i := 5) (N := some 11) (v := ?_) (a' := ?_) #[Zt,Zf,Zt,Zf,Zf,Zt,Zf,Zf,Zf,Zf,Zf,Zf,Zf,Zf,Zf,Zf,Zf,Zf,Zf,Zf,Zf,Zf,Zf] rfl rfl (any_of HT_.out (by kernel_rfl)) (fun _ _ _ h => h) (Or.inl ⟨by rfl, ?_⟩) ?_ ?_
  rotate_left
  ·intro w'
   go_simp
   with_reducible rfl
  rotate_left
  ·simp only [Act.put, Xa, Xb, Xc, i64_w, i32_w]
   rfl
  refine pure_ (i := 7) (N := some 13) (v := ?_) (a' := ?_) #[Zt,Zf,Zt,Zf,Zf,Zt,Zf,Zt,Zf,Zf,Zf,Zf,Zf,Zf,Zf,Zf,Zf,Zf,Zf,Zf,Zf,Zf,Zf] rfl rfl (any_of HT_.out (by kernel_rfl)) (fun _ _ _ h => h) (Or.inl ⟨by rfl, ?_⟩) ?_ ?_
  rotate_left
  ·intro w'
   go_simp
   with_reducible rfl
  rotate_left
  ·simp only [Act.put, Xa, Xb, Xc, i64_w, i32_w]
   rfl
  refine pure_ (i := 10) (N := some 16) (v := ?_) (a' := ?_) #[Zt,Zf,Zt,Zf,Zf,Zt,Zf,Zt,Zf,Zf,Zt,Zf,Zf,Zf,Zf,Zf,Zf,Zf,Zf,Zf,Zf,Zf,Zf] rfl rfl (any_of HT_.out (by kernel_rfl)) (fun _ _ _ h => h) (Or.inl ⟨by rfl, ?_⟩) ?_ ?_
  rotate_left
  ·intro w'
   go_simp
   with_reducible rfl
  rotate_left
  ·simp only [Act.put, Xa, Xb, Xc, i64_w, i32_w]
   rfl
  refine pure_ (i := 12) (N := some 18) (v := ?_) (a' := ?_) #[Zt,Zf,Zt,Zf,Zf,Zt,Zf,Zt,Zf,Zf,Zt,Zf,Zt,Zf,Zf,Zf,Zf,Zf,Zf,Zf,Zf,Zf,Zf] rfl rfl (any_of HT_.out (by kernel_rfl)) (fun _ _ _ h => h) (Or.inl ⟨by rfl, ?_⟩) ?_ ?_
  rotate_left
  ·intro w'
   go_simp
   with_reducible rfl
  rotate_left
  ·simp only [Act.put, Xa, Xb, Xc, i64_w, i32_w]
   rfl
  refine pure_ (i := 15) (N := some 21) (v := ?_) (a' := ?_) #[Zt,Zf,Zt,Zf,Zf,Zt,Zf,Zt,Zf,Zf,Zt,Zf,Zt,Zf,Zf,Zt,Zf,Zf,Zf,Zf,Zf,Zf,Zf] rfl rfl (any_of HT_.out (by kernel_rfl)) (fun _ _ _ h => h) (Or.inl ⟨by rfl, ?_⟩) ?_ ?_
  rotate_left
  ·intro w'
   go_simp
   with_reducible rfl
  rotate_left
  ·simp only [Act.put, Xa, Xb, Xc, i64_w, i32_w]
   rfl
  refine pure_ (i := 17) (N := some 23) (v := ?_) (a' := ?_) #[Zt,Zf,Zt,Zf,Zf,Zt,Zf,Zt,Zf,Zf,Zt,Zf,Zt,Zf,Zf,Zt,Zf,Zt,Zf,Zf,Zf,Zf,Zf] rfl rfl (any_of HT_.out (by kernel_rfl)) (fun _ _ _ h => h) (Or.inl ⟨by rfl, ?_⟩) ?_ ?_
  rotate_left
  ·intro w'
   go_simp
   with_reducible rfl
  rotate_left
  ·simp only [Act.put, Xa, Xb, Xc, i64_w, i32_w]
   rfl
  refine take_ (i := 1) (N := some 7) (v := ?_) (a' := ?_) #[Zt,Zt,Zt,Zf,Zf,Zt,Zf,Zt,Zf,Zf,Zt,Zf,Zt,Zf,Zf,Zt,Zf,Zt,Zf,Zf,Zf,Zf,Zf] rfl rfl (take_ofW HT_.out HW_.out (by kernel_rfl)) (fun _ _ _ h => h) (Or.inl ⟨by rfl, ?_⟩) hHeld ?_ ?_
  rotate_left
  ·rintro w' ⟨s0, s1, s2, s3, s4, s5, s6, s7⟩
   go_simp
   with_reducible rfl
  rotate_left
  ·simp only [Act.put, Xa, Xb, Xc, i64_w, i32_w]
   rfl
  refine take_ (i := 3) (N := some 9) (v := ?_) (a' := ?_) #[Zt,Zt,Zt,Zt,Zf,Zt,Zf,Zt,Zf,Zf,Zt,Zf,Zt,Zf,Zf,Zt,Zf,Zt,Zf,Zf,Zf,Zf,Zf] rfl rfl (take_ofW HT_.out HW_.out (by kernel_rfl)) (fun _ _ _ h => h) (Or.inl ⟨by rfl, ?_⟩) hHeld ?_ ?_
  rotate_left
  ·rintro w' ⟨s0, s1, s2, s3, s4, s5, s6, s7⟩
   go_simp
   with_reducible rfl
  rotate_left
  ·simp only [Act.put, Xa, Xb, Xc, i64_w, i32_w]
   rfl
  refine take_ (i := 6) (N := some 12) (v := ?_) (a' := ?_) #[Zt,Zt,Zt,Zt,Zf,Zt,Zt,Zt,Zf,Zf,Zt,Zf,Zt,Zf,Zf,Zt,Zf,Zt,Zf,Zf,Zf,Zf,Zf] rfl rfl (take_ofW HT_.out HW_.out (by kernel_rfl)) (fun _ _ _ h => h) (Or.inl ⟨by rfl, ?_⟩) hHeld ?_ ?_
  rotate_left
  ·rintro w' ⟨s0, s1, s2, s3, s4, s5, s6, s7⟩
   go_simp
   with_reducible rfl
  rotate_left
  ·simp only [Act.put, Xa, Xb, Xc, i64_w, i32_w]
   rfl
  refine take_ (i := 8) (N := some 14) (v := ?_) (a' := ?_) #[Zt,Zt,Zt,Zt,Zf,Zt,Zt,Zt,Zt,Zf,Zt,Zf,Zt,Zf,Zf,Zt,Zf,Zt,Zf,Zf,Zf,Zf,Zf] rfl rfl (take_ofW HT_.out HW_.out (by kernel_rfl)) (fun _ _ _ h => h) (Or.inl ⟨by rfl, ?_⟩) hHeld ?_ ?_
  rotate_left
  ·rintro w' ⟨s0, s1, s2, s3, s4, s5, s6, s7⟩
   go_simp
   with_reducible rfl
  rotate_left
  ·simp only [Act.put, Xa, Xb, Xc, i64_w, i32_w]
   rfl
  refine take_ (i := 11) (N := some 17) (v := ?_) (a' := ?_) #[Zt,Zt,Zt,Zt,Zf,Zt,Zt,Zt,Zt,Zf,Zt,Zt,Zt,Zf,Zf,Zt,Zf,Zt,Zf,Zf,Zf,Zf,Zf] rfl rfl (take_ofW HT_.out HW_.out (by kernel_rfl)) (fun _ _ _ h => h) (Or.inl ⟨by rfl, ?_⟩) hHeld ?_ ?_
  rotate_left
  ·rintro w' ⟨s0, s1, s2, s3, s4, s5, s6, s7⟩
   go_simp
   with_reducible rfl
  rotate_left
  ·simp only [Act.put, Xa, Xb, Xc, i64_w, i32_w]
   rfl
  refine take_ (i := 13) (N := some 19) (v := ?_) (a' := ?_) #[Zt,Zt,Zt,Zt,Zf,Zt,Zt,Zt,Zt,Zf,Zt,Zt,Zt,Zt,Zf,Zt,Zf,Zt,Zf,Zf,Zf,Zf,Zf] rfl rfl (take_ofW HT_.out HW_.out (by kernel_rfl)) (fun _ _ _ h => h) (Or.inl ⟨by rfl, ?_⟩) hHeld ?_ ?_
  rotate_left
  ·rintro w' ⟨s0, s1, s2, s3, s4, s5, s6, s7⟩
   go_simp
   with_reducible rfl
  rotate_left
  ·simp only [Act.put, Xa, Xb, Xc, i64_w, i32_w]
   rfl
  refine take_ (i := 16) (N := some 22) (v := ?_) (a' := ?_) #[Zt,Zt,Zt,Zt,Zf,Zt,Zt,Zt,Zt,Zf,Zt,Zt,Zt,Zt,Zf,Zt,Zt,Zt,Zf,Zf,Zf,Zf,Zf] rfl rfl (take_ofW HT_.out HW_.out (by kernel_rfl)) (fun _ _ _ h => h) (Or.inl ⟨by rfl, ?_⟩) hHeld ?_ ?_
  rotate_left
  ·rintro w' ⟨s0, s1, s2, s3, s4, s5, s6, s7⟩
   go_simp
   with_reducible rfl
  rotate_left
  ·simp only [Act.put, Xa, Xb, Xc, i64_w, i32_w]
   rfl
  refine take_ (i := 18) (N := some 24) (v := ?_) (a' := ?_) #[Zt,Zt,Zt,Zt,Zf,Zt,Zt,Zt,Zt,Zf,Zt,Zt,Zt,Zt,Zf,Zt,Zt,Zt,Zt,Zf,Zf,Zf,Zf] rfl rfl (take_ofW HT_.out HW_.out (by kernel_rfl)) (fun _ _ _ h => h) (Or.inl ⟨by rfl, ?_⟩) hHeld ?_ ?_
  rotate_left
  ·rintro w' ⟨s0, s1, s2, s3, s4, s5, s6, s7⟩
   go_simp
   with_reducible rfl
  rotate_left
  ·simp only [Act.put, Xa, Xb, Xc, i64_w, i32_w]
   rfl
  refine join_ (σ := Nat) 1 #[Zt,Zt,Zt,Zt,Zt,Zt,Zt,Zt,Zt,Zt,Zt,Zt,Zt,Zt,Zt,Zt,Zt,Zt,Zt,Zt,Zt,Zt,Zf] (fun s_ => [(10, .int .i64 t280), (15, .int .i64 t281), (20, .int .i64 t282), (25, .int .i64 t283), (5, .pointer (some ⟨s_, 0, none⟩)), (26, .agg #[.int .i64 t280, .int .i64 t281, .int .i64 t282, .int .i64 t283])]) (fun s_ w' => (w'.cell? ⟨gb277, 0, none⟩ = some (.int .i64 a0_0) ∧ w'.cell? ⟨gb277, 1, none⟩ = some (.int .i64 a0_1) ∧ w'.cell? ⟨gb277, 2, none⟩ = some (.int .i64 a0_2) ∧ w'.cell? ⟨gb277, 3, none⟩ = some (.int .i64 a0_3) ∧ w'.cell? ⟨gb278, 0, none⟩ = some (.int .i64 a1_0) ∧ w'.cell? ⟨gb278, 1, none⟩ = some (.int .i64 a1_1) ∧ w'.cell? ⟨gb278, 2, none⟩ = some (.int .i64 a1_2) ∧ w'.cell? ⟨gb278, 3, none⟩ = some (.int .i64 a1_3)) ∧ (w'.heap[gb277]? = some (.cells #[.int .i64 a0_0, .int .i64 a0_1, .int .i64 a0_2, .int .i64 a0_3] 37 (0, 0))) ∧ (w'.heap[gb278]? = some (.cells #[.int .i64 a1_0, .int .i64 a1_1, .int .i64 a1_2, .int .i64 a1_3] 37 (0, 0))) ∧ (w'.heap[gb279]? = some (.cells #[.int .i64 0, .int .i64 0, .int .i64 0, .int .i64 0] 37 (0, 0))) ∧ (w'.heap[s_]? = some (.cells #[.int .i64 0, .int .i64 0, .int .i64 0, .int .i64 0] 37 (0, 0))) ∧ (w.heap.size ≤ s_) ∧ (w.heap.size ≤ s_) ∧ (gb277 ≠ s_) ∧ (s_ ≠ gb277) ∧ (gb278 ≠ s_) ∧ (s_ ≠ gb278) ∧ (gb279 ≠ s_) ∧ (s_ ≠ gb279) ∧ (Below w.heap.size w w')) ?_ ?_
  rotate_left
  ·intro hJ4_9_14_19_21
   refine join_ (σ := Unit) 2 #[Zt,Zt,Zt,Zt,Zt,Zt,Zt,Zt,Zt,Zt,Zt,Zt,Zt,Zt,Zt,Zt,Zt,Zt,Zt,Zt,Zt,Zf,Zf] (fun s_ => [(10, .int .i64 t280), (15, .int .i64 t281), (20, .int .i64 t282), (25, .int .i64 t283), (26, .agg #[.int .i64 t280, .int .i64 t281, .int .i64 t282, .int .i64 t283])]) (fun s_ w' => (w'.cell? ⟨gb277, 0, none⟩ = some (.int .i64 a0_0) ∧ w'.cell? ⟨gb277, 1, none⟩ = some (.int .i64 a0_1) ∧ w'.cell? ⟨gb277, 2, none⟩ = some (.int .i64 a0_2) ∧ w'.cell? ⟨gb277, 3, none⟩ = some (.int .i64 a0_3) ∧ w'.cell? ⟨gb278, 0, none⟩ = some (.int .i64 a1_0) ∧ w'.cell? ⟨gb278, 1, none⟩ = some (.int .i64 a1_1) ∧ w'.cell? ⟨gb278, 2, none⟩ = some (.int .i64 a1_2) ∧ w'.cell? ⟨gb278, 3, none⟩ = some (.int .i64 a1_3)) ∧ (w'.heap[gb277]? = some (.cells #[.int .i64 a0_0, .int .i64 a0_1, .int .i64 a0_2, .int .i64 a0_3] 37 (0, 0))) ∧ (w'.heap[gb278]? = some (.cells #[.int .i64 a1_0, .int .i64 a1_1, .int .i64 a1_2, .int .i64 a1_3] 37 (0, 0))) ∧ (w'.heap[gb279]? = some (.cells #[.int .i64 0, .int .i64 0, .int .i64 0, .int .i64 0] 37 (0, 0))) ∧ (Below w.heap.size w w')) ?_ ?_
   rotate_left
   ·intro hJ4_9_14_19
    refine join_ (σ := Nat) 3 #[Zt,Zt,Zt,Zt,Zt,Zt,Zt,Zt,Zt,Zt,Zt,Zt,Zt,Zt,Zt,Zt,Zt,Zt,Zt,Zf,Zf,Zt,Zf] (fun s_ => [(10, .int .i64 t280), (15, .int .i64 t281), (20, .int .i64 t282), (5, .pointer (some ⟨s_, 0, none⟩))]) (fun s_ w' => (w'.cell? ⟨gb277, 0, none⟩ = some (.int .i64 a0_0) ∧ w'.cell? ⟨gb277, 1, none⟩ = some (.int .i64 a0_1) ∧ w'.cell? ⟨gb277, 2, none⟩ = some (.int .i64 a0_2) ∧ w'.cell? ⟨gb277, 3, none⟩ = some (.int .i64 a0_3) ∧ w'.cell? ⟨gb278, 0, none⟩ = some (.int .i64 a1_0) ∧ w'.cell? ⟨gb278, 1, none⟩ = some (.int .i64 a1_1) ∧ w'.cell? ⟨gb278, 2, none⟩ = some (.int .i64 a1_2) ∧ w'.cell? ⟨gb278, 3, none⟩ = some (.int .i64 a1_3)) ∧ (w'.heap[gb277]? = some (.cells #[.int .i64 a0_0, .int .i64 a0_1, .int .i64 a0_2, .int .i64 a0_3] 37 (0, 0))) ∧ (w'.heap[gb278]? = some (.cells #[.int .i64 a1_0, .int .i64 a1_1, .int .i64 a1_2, .int .i64 a1_3] 37 (0, 0))) ∧ (w'.heap[gb279]? = some (.cells #[.int .i64 0, .int .i64 0, .int .i64 0, .int .i64 0] 37 (0, 0))) ∧ (w'.heap[s_]? = some (.cells #[.int .i64 0, .int .i64 0, .int .i64 0, .int .i64 0] 37 (0, 0))) ∧ (w.heap.size ≤ s_) ∧ (w.heap.size ≤ s_) ∧ (gb277 ≠ s_) ∧ (s_ ≠ gb277) ∧ (gb278 ≠ s_) ∧ (s_ ≠ gb278) ∧ (gb279 ≠ s_) ∧ (s_ ≠ gb279) ∧ (Below w.heap.size w w')) ?_ ?_
    rotate_left
    ·intro hJ4_9_14_21
     refine join_ (σ := Unit) 4 #[Zt,Zt,Zt,Zt,Zt,Zt,Zt,Zt,Zt,Zt,Zt,Zt,Zt,Zt,Zt,Zt,Zt,Zt,Zt,Zf,Zf,Zf,Zf] (fun s_ => [(10, .int .i64 t280), (15, .int .i64 t281), (20, .int .i64 t282)]) (fun s_ w' => (w'.cell? ⟨gb277, 0, none⟩ = some (.int .i64 a0_0) ∧ w'.cell? ⟨gb277, 1, none⟩ = some (.int .i64 a0_1) ∧ w'.cell? ⟨gb277, 2, none⟩ = some (.int .i64 a0_2) ∧ w'.cell? ⟨gb277, 3, none⟩ = some (.int .i64 a0_3) ∧ w'.cell? ⟨gb278, 0, none⟩ = some (.int .i64 a1_0) ∧ w'.cell? ⟨gb278, 1, none⟩ = some (.int .i64 a1_1) ∧ w'.cell? ⟨gb278, 2, none⟩ = some (.int .i64 a1_2) ∧ w'.cell? ⟨gb278, 3, none⟩ = some (.int .i64 a1_3)) ∧ (w'.heap[gb277]? = some (.cells #[.int .i64 a0_0, .int .i64 a0_1, .int .i64 a0_2, .int .i64 a0_3] 37 (0, 0))) ∧ (w'.heap[gb278]? = some (.cells #[.int .i64 a1_0, .int .i64 a1_1, .int .i64 a1_2, .int .i64 a1_3] 37 (0, 0))) ∧ (w'.heap[gb279]? = some (.cells #[.int .i64 0, .int .i64 0, .int .i64 0, .int .i64 0] 37 (0, 0))) ∧ (Below w.heap.size w w')) ?_ ?_
     rotate_left
     ·intro hJ4_9_14
      refine join_ (σ := Nat) 4 #[Zt,Zt,Zt,Zt,Zt,Zt,Zt,Zt,Zt,Zt,Zt,Zt,Zt,Zt,Zf,Zt,Zt,Zt,Zt,Zf,Zf,Zt,Zf] (fun s_ => [(10, .int .i64 t280), (15, .int .i64 t281), (5, .pointer (some ⟨s_, 0, none⟩))]) (fun s_ w' => (w'.cell? ⟨gb277, 0, none⟩ = some (.int .i64 a0_0) ∧ w'.cell? ⟨gb277, 1, none⟩ = some (.int .i64 a0_1) ∧ w'.cell? ⟨gb277, 2, none⟩ = some (.int .i64 a0_2) ∧ w'.cell? ⟨gb277, 3, none⟩ = some (.int .i64 a0_3) ∧ w'.cell? ⟨gb278, 0, none⟩ = some (.int .i64 a1_0) ∧ w'.cell? ⟨gb278, 1, none⟩ = some (.int .i64 a1_1) ∧ w'.cell? ⟨gb278, 2, none⟩ = some (.int .i64 a1_2) ∧ w'.cell? ⟨gb278, 3, none⟩ = some (.int .i64 a1_3)) ∧ (w'.heap[gb277]? = some (.cells #[.int .i64 a0_0, .int .i64 a0_1, .int .i64 a0_2, .int .i64 a0_3] 37 (0, 0))) ∧ (w'.heap[gb278]? = some (.cells #[.int .i64 a1_0, .int .i64 a1_1, .int .i64 a1_2, .int .i64 a1_3] 37 (0, 0))) ∧ (w'.heap[gb279]? = some (.cells #[.int .i64 0, .int .i64 0, .int .i64 0, .int .i64 0] 37 (0, 0))) ∧ (w'.heap[s_]? = some (.cells #[.int .i64 0, .int .i64 0, .int .i64 0, .int .i64 0] 37 (0, 0))) ∧ (w.heap.size ≤ s_) ∧ (w.heap.size ≤ s_) ∧ (gb277 ≠ s_) ∧ (s_ ≠ gb277) ∧ (gb278 ≠ s_) ∧ (s_ ≠ gb278) ∧ (gb279 ≠ s_) ∧ (s_ ≠ gb279) ∧ (Below w.heap.size w w')) ?_ ?_
      rotate_left
      ·intro hJ4_9_21
       refine join_ (σ := Unit) 5 #[Zt,Zt,Zt,Zt,Zt,Zt,Zt,Zt,Zt,Zt,Zt,Zt,Zt,Zt,Zf,Zt,Zt,Zt,Zt,Zf,Zf,Zf,Zf] (fun s_ => [(10, .int .i64 t280), (15, .int .i64 t281)]) (fun s_ w' => (w'.cell? ⟨gb277, 0, none⟩ = some (.int .i64 a0_0) ∧ w'.cell? ⟨gb277, 1, none⟩ = some (.int .i64 a0_1) ∧ w'.cell? ⟨gb277, 2, none⟩ = some (.int .i64 a0_2) ∧ w'.cell? ⟨gb277, 3, none⟩ = some (.int .i64 a0_3) ∧ w'.cell? ⟨gb278, 0, none⟩ = some (.int .i64 a1_0) ∧ w'.cell? ⟨gb278, 1, none⟩ = some (.int .i64 a1_1) ∧ w'.cell? ⟨gb278, 2, none⟩ = some (.int .i64 a1_2) ∧ w'.cell? ⟨gb278, 3, none⟩ = some (.int .i64 a1_3)) ∧ (w'.heap[gb277]? = some (.cells #[.int .i64 a0_0, .int .i64 a0_1, .int .i64 a0_2, .int .i64 a0_3] 37 (0, 0))) ∧ (w'.heap[gb278]? = some (.cells #[.int .i64 a1_0, .int .i64 a1_1, .int .i64 a1_2, .int .i64 a1_3] 37 (0, 0))) ∧ (w'.heap[gb279]? = some (.cells #[.int .i64 0, .int .i64 0, .int .i64 0, .int .i64 0] 37 (0, 0))) ∧ (Below w.heap.size w w')) ?_ ?_
       rotate_left
       ·intro hJ4_9
        refine join_ (σ := Nat) 5 #[Zt,Zt,Zt,Zt,Zt,Zt,Zt,Zt,Zt,Zf,Zt,Zt,Zt,Zt,Zf,Zt,Zt,Zt,Zt,Zf,Zf,Zt,Zf] (fun s_ => [(10, .int .i64 t280), (5, .pointer (some ⟨s_, 0, none⟩))]) (fun s_ w' => (w'.cell? ⟨gb277, 0, none⟩ = some (.int .i64 a0_0) ∧ w'.cell? ⟨gb277, 1, none⟩ = some (.int .i64 a0_1) ∧ w'.cell? ⟨gb277, 2, none⟩ = some (.int .i64 a0_2) ∧ w'.cell? ⟨gb277, 3, none⟩ = some (.int .i64 a0_3) ∧ w'.cell? ⟨gb278, 0, none⟩ = some (.int .i64 a1_0) ∧ w'.cell? ⟨gb278, 1, none⟩ = some (.int .i64 a1_1) ∧ w'.cell? ⟨gb278, 2, none⟩ = some (.int .i64 a1_2) ∧ w'.cell? ⟨gb278, 3, none⟩ = some (.int .i64 a1_3)) ∧ (w'.heap[gb277]? = some (.cells #[.int .i64 a0_0, .int .i64 a0_1, .int .i64 a0_2, .int .i64 a0_3] 37 (0, 0))) ∧ (w'.heap[gb278]? = some (.cells #[.int .i64 a1_0, .int .i64 a1_1, .int .i64 a1_2, .int .i64 a1_3] 37 (0, 0))) ∧ (w'.heap[gb279]? = some (.cells #[.int .i64 0, .int .i64 0, .int .i64 0, .int .i64 0] 37 (0, 0))) ∧ (w'.heap[s_]? = some (.cells #[.int .i64 0, .int .i64 0, .int .i64 0, .int .i64 0] 37 (0, 0))) ∧ (w.heap.size ≤ s_) ∧ (w.heap.size ≤ s_) ∧ (gb277 ≠ s_) ∧ (s_ ≠ gb277) ∧ (gb278 ≠ s_) ∧ (s_ ≠ gb278) ∧ (gb279 ≠ s_) ∧ (s_ ≠ gb279) ∧ (Below w.heap.size w w')) ?_ ?_
        rotate_left
        ·intro hJ4_21
         refine join_ (σ := Unit) 6 #[Zt,Zt,Zt,Zt,Zt,Zt,Zt,Zt,Zt,Zf,Zt,Zt,Zt,Zt,Zf,Zt,Zt,Zt,Zt,Zf,Zf,Zf,Zf] (fun s_ => [(10, .int .i64 t280)]) (fun s_ w' => (w'.cell? ⟨gb277, 0, none⟩ = some (.int .i64 a0_0) ∧ w'.cell? ⟨gb277, 1, none⟩ = some (.int .i64 a0_1) ∧ w'.cell? ⟨gb277, 2, none⟩ = some (.int .i64 a0_2) ∧ w'.cell? ⟨gb277, 3, none⟩ = some (.int .i64 a0_3) ∧ w'.cell? ⟨gb278, 0, none⟩ = some (.int .i64 a1_0) ∧ w'.cell? ⟨gb278, 1, none⟩ = some (.int .i64 a1_1) ∧ w'.cell? ⟨gb278, 2, none⟩ = some (.int .i64 a1_2) ∧ w'.cell? ⟨gb278, 3, none⟩ = some (.int .i64 a1_3)) ∧ (w'.heap[gb277]? = some (.cells #[.int .i64 a0_0, .int .i64 a0_1, .int .i64 a0_2, .int .i64 a0_3] 37 (0, 0))) ∧ (w'.heap[gb278]? = some (.cells #[.int .i64 a1_0, .int .i64 a1_1, .int .i64 a1_2, .int .i64 a1_3] 37 (0, 0))) ∧ (w'.heap[gb279]? = some (.cells #[.int .i64 0, .int .i64 0, .int .i64 0, .int .i64 0] 37 (0, 0))) ∧ (Below w.heap.size w w')) ?_ ?_
         rotate_left
         ·intro hJ4
          refine join_ (σ := Nat) 6 #[Zt,Zt,Zt,Zt,Zf,Zt,Zt,Zt,Zt,Zf,Zt,Zt,Zt,Zt,Zf,Zt,Zt,Zt,Zt,Zf,Zf,Zt,Zf] (fun s_ => [(5, .pointer (some ⟨s_, 0, none⟩))]) (fun s_ w' => (w'.cell? ⟨gb277, 0, none⟩ = some (.int .i64 a0_0) ∧ w'.cell? ⟨gb277, 1, none⟩ = some (.int .i64 a0_1) ∧ w'.cell? ⟨gb277, 2, none⟩ = some (.int .i64 a0_2) ∧ w'.cell? ⟨gb277, 3, none⟩ = some (.int .i64 a0_3) ∧ w'.cell? ⟨gb278, 0, none⟩ = some (.int .i64 a1_0) ∧ w'.cell? ⟨gb278, 1, none⟩ = some (.int .i64 a1_1) ∧ w'.cell? ⟨gb278, 2, none⟩ = some (.int .i64 a1_2) ∧ w'.cell? ⟨gb278, 3, none⟩ = some (.int .i64 a1_3)) ∧ (w'.heap[gb277]? = some (.cells #[.int .i64 a0_0, .int .i64 a0_1, .int .i64 a0_2, .int .i64 a0_3] 37 (0, 0))) ∧ (w'.heap[gb278]? = some (.cells #[.int .i64 a1_0, .int .i64 a1_1, .int .i64 a1_2, .int .i64 a1_3] 37 (0, 0))) ∧ (w'.heap[gb279]? = some (.cells #[.int .i64 0, .int .i64 0, .int .i64 0, .int .i64 0] 37 (0, 0))) ∧ (w'.heap[s_]? = some (.cells #[.int .i64 0, .int .i64 0, .int .i64 0, .int .i64 0] 37 (0, 0))) ∧ (w.heap.size ≤ s_) ∧ (w.heap.size ≤ s_) ∧ (gb277 ≠ s_) ∧ (s_ ≠ gb277) ∧ (gb278 ≠ s_) ∧ (s_ ≠ gb278) ∧ (gb279 ≠ s_) ∧ (s_ ≠ gb279) ∧ (Below w.heap.size w w')) ?_ ?_
          rotate_left
          ·intro hJ21
           refine two_ (i := 4) (j := 21) (Ni := some 10) (Nj := some 5) #[Zt,Zt,Zt,Zt,Zt,Zt,Zt,Zt,Zt,Zf,Zt,Zt,Zt,Zt,Zf,Zt,Zt,Zt,Zt,Zf,Zf,Zf,Zf] #[Zt,Zt,Zt,Zt,Zf,Zt,Zt,Zt,Zt,Zf,Zt,Zt,Zt,Zt,Zf,Zt,Zt,Zt,Zt,Zf,Zf,Zt,Zf] rfl rfl rfl rfl (two_of HT_.out (by kernel_rfl)) (by decide) (by decide) (fun K hK => ?_) (fun K hK => ?_)
           ·skip
            refine goes_ Try.func73 (by kernel_rfl) rfl #[.int .i64 a0_0, .int .i64 a1_0] (by rfl) rfl rfl (by (try simp only [List.map_toArray, List.map_cons, List.map_nil]); first | done | rfl | (simp only [List.length_drop, List.length_take]; rfl)) ?_
            with_reducible refine (gatherumref04_high.calls a0_0 a1_0 t280 _ A3.out).mono ?_
            rintro e w' ⟨rfl, ⟨nd, rfl⟩⟩
            refine ⟨_, rfl, ?_⟩
            refine hK.out _ _ ⟨(Xd BK277.out 0).trans rfl, (Xd BK277.out 1).trans rfl, (Xd BK277.out 2).trans rfl, (Xd BK277.out 3).trans rfl, (Xd BK278.out 0).trans rfl, (Xd BK278.out 1).trans rfl, (Xd BK278.out 2).trans rfl, (Xd BK278.out 3).trans rfl⟩ (fun hHeld => ?_)
            clear hK K
            refine Xm (a' := ?_) ?_ ?_
            rotate_left
            ·show Act.put _ (some 10) _ = _
             simp only [Act.put, Xa, Xb, Xc, i64_w, i32_w]
             rfl
            exact Xm (by first | (simp only [Xk, Act.put, Xa, Xb, Xc]; done) | (simp only [Xk, Act.put, Xa, Xb, Xc]; rfl)) (hJ4 () _ ⟨hHeld, (bb_11 BK277.out), (bb_11 BK278.out), (bb_11 BK279.out), (hb_11 HB.out)⟩)
           ·skip
            refine box_step ?hg (N := 5) ?hd (cs := #[.int .i64 0, .int .i64 0, .int .i64 0, .int .i64 0]) (t := 37) ?hr ?_; (case hd => rfl); (case hg => rfl); (case hr => first | (go_simp; done) | (go_simp; rfl))
            intro gb284 hg w31 hbox hb
            have n0_ := Za (Xl (g := gb277) (o := .cells #[.int .i64 a0_0, .int .i64 a0_1, .int .i64 a0_2, .int .i64 a0_3] 37 (0, 0)) (bb_11 BK277.out) hb)
            have n1_ := Za (Xl (g := gb278) (o := .cells #[.int .i64 a1_0, .int .i64 a1_1, .int .i64 a1_2, .int .i64 a1_3] 37 (0, 0)) (bb_11 BK278.out) hb)
            have n2_ := Za (Xl (g := gb279) (o := .cells #[.int .i64 0, .int .i64 0, .int .i64 0, .int .i64 0] 37 (0, 0)) (bb_11 BK279.out) hb)
            have n3_ := Za (below_step (hb_11 HB.out) hb)
            have n4_ := Za (hbox)
            have n5_ := Za ((by rw [hg]; exact (Xn (hb_11 HB.out)) : w.heap.size ≤ gb284))
            have n6_ := Za ((by rw [hg]; exact (Xn (hb_11 HB.out)) : w.heap.size ≤ gb284))
            have n7_ := Za ((by rw [hg]; exact Nat.ne_of_lt (Xj (g := gb277) (o := .cells #[.int .i64 a0_0, .int .i64 a0_1, .int .i64 a0_2, .int .i64 a0_3] 37 (0, 0)) (bb_11 BK277.out)) : gb277 ≠ gb284))
            have n8_ := Za ((by rw [hg]; exact Nat.ne_of_gt (Xj (g := gb277) (o := .cells #[.int .i64 a0_0, .int .i64 a0_1, .int .i64 a0_2, .int .i64 a0_3] 37 (0, 0)) (bb_11 BK277.out)) : gb284 ≠ gb277))
            have n9_ := Za ((by rw [hg]; exact Nat.ne_of_lt (Xj (g := gb278) (o := .cells #[.int .i64 a1_0, .int .i64 a1_1, .int .i64 a1_2, .int .i64 a1_3] 37 (0, 0)) (bb_11 BK278.out)) : gb278 ≠ gb284))
            have n10_ := Za ((by rw [hg]; exact Nat.ne_of_gt (Xj (g := gb278) (o := .cells #[.int .i64 a1_0, .int .i64 a1_1, .int .i64 a1_2, .int .i64 a1_3] 37 (0, 0)) (bb_11 BK278.out)) : gb284 ≠ gb278))
            have n11_ := Za ((by rw [hg]; exact Nat.ne_of_lt (Xj (g := gb279) (o := .cells #[.int .i64 0, .int .i64 0, .int .i64 0, .int .i64 0] 37 (0, 0)) (bb_11 BK279.out)) : gb279 ≠ gb284))
            have n12_ := Za ((by rw [hg]; exact Nat.ne_of_gt (Xj (g := gb279) (o := .cells #[.int .i64 0, .int .i64 0, .int .i64 0, .int .i64 0] 37 (0, 0)) (bb_11 BK279.out)) : gb284 ≠ gb279))
            clear BK277
            clear BK278
            clear BK279
            clear HB
            have BK277 := n0_
            have BK278 := n1_
            have BK279 := n2_
            have HB := n3_
            have BK284 := n4_
            have GW284 := n5_
            have GE284 := n6_
            have NB277_284 := n7_
            have NB284_277 := n8_
            have NB278_284 := n9_
            have NB284_278 := n10_
            have NB279_284 := n11_
            have NB284_279 := n12_
            clear n0_ n1_ n2_ n3_ n4_ n5_ n6_ n7_ n8_ n9_ n10_ n11_ n12_
            clear hb hbox hg
            refine hK.out _ _ ⟨(Xd BK277.out 0).trans rfl, (Xd BK277.out 1).trans rfl, (Xd BK277.out 2).trans rfl, (Xd BK277.out 3).trans rfl, (Xd BK278.out 0).trans rfl, (Xd BK278.out 1).trans rfl, (Xd BK278.out 2).trans rfl, (Xd BK278.out 3).trans rfl⟩ (fun hHeld => ?_)
            clear hK K
            refine Xm (a' := ?_) ?_ ?_
            rotate_left
            ·show Act.put _ (some 5) _ = _
             simp only [Act.put, Xa, Xb, Xc, i64_w, i32_w]
             rfl
            exact Xm (by first | (simp only [Xk, Act.put, Xa, Xb, Xc]; done) | (simp only [Xk, Act.put, Xa, Xb, Xc]; rfl)) (hJ21 (gb284) _ ⟨hHeld, (bb_11 BK277.out), (bb_11 BK278.out), (bb_11 BK279.out), (bb_11 BK284.out), GW284.out, GE284.out, NB277_284.out, NB284_277.out, NB278_284.out, NB284_278.out, NB279_284.out, NB284_279.out, (hb_11 HB.out)⟩)
          ·skip
           rintro gb284 w32 ⟨hS_, h0_, h1_, h2_, h3_, h4_, h5_, h6_, h7_, h8_, h9_, h10_, h11_, h12_⟩
           have n0_ : Xe (w32.heap[gb277]? = some (.cells #[.int .i64 a0_0, .int .i64 a0_1, .int .i64 a0_2, .int .i64 a0_3] 37 (0, 0))) := ⟨h0_⟩
           have n1_ : Xe (w32.heap[gb278]? = some (.cells #[.int .i64 a1_0, .int .i64 a1_1, .int .i64 a1_2, .int .i64 a1_3] 37 (0, 0))) := ⟨h1_⟩
           have n2_ : Xe (w32.heap[gb279]? = some (.cells #[.int .i64 0, .int .i64 0, .int .i64 0, .int .i64 0] 37 (0, 0))) := ⟨h2_⟩
           have n3_ : Xe (w32.heap[gb284]? = some (.cells #[.int .i64 0, .int .i64 0, .int .i64 0, .int .i64 0] 37 (0, 0))) := ⟨h3_⟩
           have n4_ : Xe (w.heap.size ≤ gb284) := ⟨h4_⟩
           have n5_ : Xe (w.heap.size ≤ gb284) := ⟨h5_⟩
           have n6_ : Xe (gb277 ≠ gb284) := ⟨h6_⟩
           have n7_ : Xe (gb284 ≠ gb277) := ⟨h7_⟩
           have n8_ : Xe (gb278 ≠ gb284) := ⟨h8_⟩
           have n9_ : Xe (gb284 ≠ gb278) := ⟨h9_⟩
           have n10_ : Xe (gb279 ≠ gb284) := ⟨h10_⟩
           have n11_ : Xe (gb284 ≠ gb279) := ⟨h11_⟩
           have n12_ : Xe (Below w.heap.size w w32) := ⟨h12_⟩
           clear BK277
           clear BK278
           clear BK279
           clear HB
           clear h0_ h1_ h2_ h3_ h4_ h5_ h6_ h7_ h8_ h9_ h10_ h11_ h12_
           have BK277 := n0_
           have BK278 := n1_
           have BK279 := n2_
           have BK284 := n3_
           have GW284 := n4_
           have GE284 := n5_
           have NB277_284 := n6_
           have NB284_277 := n7_
           have NB278_284 := n8_
           have NB284_278 := n9_
           have NB279_284 := n10_
           have NB284_279 := n11_
           have HB := n12_
           clear n0_ n1_ n2_ n3_ n4_ n5_ n6_ n7_ n8_ n9_ n10_ n11_ n12_
           have hHeld : w32.cell? ⟨gb277, 0, none⟩ = some (.int .i64 a0_0) ∧ w32.cell? ⟨gb277, 1, none⟩ = some (.int .i64 a0_1) ∧ w32.cell? ⟨gb277, 2, none⟩ = some (.int .i64 a0_2) ∧ w32.cell? ⟨gb277, 3, none⟩ = some (.int .i64 a0_3) ∧ w32.cell? ⟨gb278, 0, none⟩ = some (.int .i64 a1_0) ∧ w32.cell? ⟨gb278, 1, none⟩ = some (.int .i64 a1_1) ∧ w32.cell? ⟨gb278, 2, none⟩ = some (.int .i64 a1_2) ∧ w32.cell? ⟨gb278, 3, none⟩ = some (.int .i64 a1_3) := hS_
           refine Xm (a' := ?_) ?_ ?_
           rotate_left
           ·simp only [Xk, Act.put, Xa, Xb, Xc]
            rfl
           refine one_ (i := 4) (N := some 10) #[Zt,Zt,Zt,Zt,Zt,Zt,Zt,Zt,Zt,Zf,Zt,Zt,Zt,Zt,Zf,Zt,Zt,Zt,Zt,Zf,Zf,Zt,Zf] rfl rfl (one_of HT_.out (by kernel_rfl)) (by decide) (fun K hK => ?_)
           refine goes_ Try.func73 (by kernel_rfl) rfl #[.int .i64 a0_0, .int .i64 a1_0] (by rfl) rfl rfl (by (try simp only [List.map_toArray, List.map_cons, List.map_nil]); first | done | rfl | (simp only [List.length_drop, List.length_take]; rfl)) ?_
           with_reducible refine (gatherumref04_high.calls a0_0 a1_0 t280 _ A3.out).mono ?_
           rintro e w' ⟨rfl, ⟨nd, rfl⟩⟩
           refine ⟨_, rfl, ?_⟩
           refine hK.out _ _ ⟨(Xd BK277.out 0).trans rfl, (Xd BK277.out 1).trans rfl, (Xd BK277.out 2).trans rfl, (Xd BK277.out 3).trans rfl, (Xd BK278.out 0).trans rfl, (Xd BK278.out 1).trans rfl, (Xd BK278.out 2).trans rfl, (Xd BK278.out 3).trans rfl⟩ (fun hHeld => ?_)
           clear hK K
           refine Xm (a' := ?_) ?_ ?_
           rotate_left
           ·show Act.put _ (some 10) _ = _
            simp only [Act.put, Xa, Xb, Xc, i64_w, i32_w]
            rfl
           exact Xm (by first | (simp only [Xk, Act.put, Xa, Xb, Xc]; done) | (simp only [Xk, Act.put, Xa, Xb, Xc]; rfl)) (hJ4_21 (gb284) _ ⟨hHeld, (bb_11 BK277.out), (bb_11 BK278.out), (bb_11 BK279.out), (bb_11 BK284.out), GW284.out, GE284.out, NB277_284.out, NB284_277.out, NB278_284.out, NB284_278.out, NB279_284.out, NB284_279.out, (hb_11 HB.out)⟩)
         ·skip
          rintro _ w31 ⟨hS_, h0_, h1_, h2_, h3_⟩
          have n0_ : Xe (w31.heap[gb277]? = some (.cells #[.int .i64 a0_0, .int .i64 a0_1, .int .i64 a0_2, .int .i64 a0_3] 37 (0, 0))) := ⟨h0_⟩
          have n1_ : Xe (w31.heap[gb278]? = some (.cells #[.int .i64 a1_0, .int .i64 a1_1, .int .i64 a1_2, .int .i64 a1_3] 37 (0, 0))) := ⟨h1_⟩
          have n2_ : Xe (w31.heap[gb279]? = some (.cells #[.int .i64 0, .int .i64 0, .int .i64 0, .int .i64 0] 37 (0, 0))) := ⟨h2_⟩
          have n3_ : Xe (Below w.heap.size w w31) := ⟨h3_⟩
          clear BK277
          clear BK278
          clear BK279
          clear HB
          clear h0_ h1_ h2_ h3_
          have BK277 := n0_
          have BK278 := n1_
          have BK279 := n2_
          have HB := n3_
          clear n0_ n1_ n2_ n3_
          have hHeld : w31.cell? ⟨gb277, 0, none⟩ = some (.int .i64 a0_0) ∧ w31.cell? ⟨gb277, 1, none⟩ = some (.int .i64 a0_1) ∧ w31.cell? ⟨gb277, 2, none⟩ = some (.int .i64 a0_2) ∧ w31.cell? ⟨gb277, 3, none⟩ = some (.int .i64 a0_3) ∧ w31.cell? ⟨gb278, 0, none⟩ = some (.int .i64 a1_0) ∧ w31.cell? ⟨gb278, 1, none⟩ = some (.int .i64 a1_1) ∧ w31.cell? ⟨gb278, 2, none⟩ = some (.int .i64 a1_2) ∧ w31.cell? ⟨gb278, 3, none⟩ = some (.int .i64 a1_3) := hS_
          refine Xm (a' := ?_) ?_ ?_
          rotate_left
          ·simp only [Xk, Act.put, Xa, Xb, Xc]
           rfl
          refine two_ (i := 9) (j := 21) (Ni := some 15) (Nj := some 5) #[Zt,Zt,Zt,Zt,Zt,Zt,Zt,Zt,Zt,Zt,Zt,Zt,Zt,Zt,Zf,Zt,Zt,Zt,Zt,Zf,Zf,Zf,Zf] #[Zt,Zt,Zt,Zt,Zt,Zt,Zt,Zt,Zt,Zf,Zt,Zt,Zt,Zt,Zf,Zt,Zt,Zt,Zt,Zf,Zf,Zt,Zf] rfl rfl rfl rfl (two_of HT_.out (by kernel_rfl)) (by decide) (by decide) (fun K hK => ?_) (fun K hK => ?_)
          ·skip
           refine goes_ Try.func73 (by kernel_rfl) rfl #[.int .i64 a0_1, .int .i64 a1_1] (by rfl) rfl rfl (by (try simp only [List.map_toArray, List.map_cons, List.map_nil]); first | done | rfl | (simp only [List.length_drop, List.length_take]; rfl)) ?_
           with_reducible refine (gatherumref04_high.calls a0_1 a1_1 t281 _ A4.out).mono ?_
           rintro e w' ⟨rfl, ⟨nd, rfl⟩⟩
           refine ⟨_, rfl, ?_⟩
           refine hK.out _ _ ⟨(Xd BK277.out 0).trans rfl, (Xd BK277.out 1).trans rfl, (Xd BK277.out 2).trans rfl, (Xd BK277.out 3).trans rfl, (Xd BK278.out 0).trans rfl, (Xd BK278.out 1).trans rfl, (Xd BK278.out 2).trans rfl, (Xd BK278.out 3).trans rfl⟩ (fun hHeld => ?_)
           clear hK K
           refine Xm (a' := ?_) ?_ ?_
           rotate_left
           ·show Act.put _ (some 15) _ = _
            simp only [Act.put, Xa, Xb, Xc, i64_w, i32_w]
            rfl
           exact Xm (by first | (simp only [Xk, Act.put, Xa, Xb, Xc]; done) | (simp only [Xk, Act.put, Xa, Xb, Xc]; rfl)) (hJ4_9 () _ ⟨hHeld, (bb_11 BK277.out), (bb_11 BK278.out), (bb_11 BK279.out), (hb_11 HB.out)⟩)
          ·skip
           refine box_step ?hg (N := 5) ?hd (cs := #[.int .i64 0, .int .i64 0, .int .i64 0, .int .i64 0]) (t := 37) ?hr ?_; (case hd => rfl); (case hg => rfl); (case hr => first | (go_simp; done) | (go_simp; rfl))
           intro gb284 hg w32 hbox hb
           have n0_ := Za (Xl (g := gb277) (o := .cells #[.int .i64 a0_0, .int .i64 a0_1, .int .i64 a0_2, .int .i64 a0_3] 37 (0, 0)) (bb_11 BK277.out) hb)
           have n1_ := Za (Xl (g := gb278) (o := .cells #[.int .i64 a1_0, .int .i64 a1_1, .int .i64 a1_2, .int .i64 a1_3] 37 (0, 0)) (bb_11 BK278.out) hb)
           have n2_ := Za (Xl (g := gb279) (o := .cells #[.int .i64 0, .int .i64 0, .int .i64 0, .int .i64 0] 37 (0, 0)) (bb_11 BK279.out) hb)
           have n3_ := Za (below_step (hb_11 HB.out) hb)
           have n4_ := Za (hbox)
           have n5_ := Za ((by rw [hg]; exact (Xn (hb_11 HB.out)) : w.heap.size ≤ gb284))
           have n6_ := Za ((by rw [hg]; exact (Xn (hb_11 HB.out)) : w.heap.size ≤ gb284))
           have n7_ := Za ((by rw [hg]; exact Nat.ne_of_lt (Xj (g := gb277) (o := .cells #[.int .i64 a0_0, .int .i64 a0_1, .int .i64 a0_2, .int .i64 a0_3] 37 (0, 0)) (bb_11 BK277.out)) : gb277 ≠ gb284))
           have n8_ := Za ((by rw [hg]; exact Nat.ne_of_gt (Xj (g := gb277) (o := .cells #[.int .i64 a0_0, .int .i64 a0_1, .int .i64 a0_2, .int .i64 a0_3] 37 (0, 0)) (bb_11 BK277.out)) : gb284 ≠ gb277))
           have n9_ := Za ((by rw [hg]; exact Nat.ne_of_lt (Xj (g := gb278) (o := .cells #[.int .i64 a1_0, .int .i64 a1_1, .int .i64 a1_2, .int .i64 a1_3] 37 (0, 0)) (bb_11 BK278.out)) : gb278 ≠ gb284))
           have n10_ := Za ((by rw [hg]; exact Nat.ne_of_gt (Xj (g := gb278) (o := .cells #[.int .i64 a1_0, .int .i64 a1_1, .int .i64 a1_2, .int .i64 a1_3] 37 (0, 0)) (bb_11 BK278.out)) : gb284 ≠ gb278))
           have n11_ := Za ((by rw [hg]; exact Nat.ne_of_lt (Xj (g := gb279) (o := .cells #[.int .i64 0, .int .i64 0, .int .i64 0, .int .i64 0] 37 (0, 0)) (bb_11 BK279.out)) : gb279 ≠ gb284))
           have n12_ := Za ((by rw [hg]; exact Nat.ne_of_gt (Xj (g := gb279) (o := .cells #[.int .i64 0, .int .i64 0, .int .i64 0, .int .i64 0] 37 (0, 0)) (bb_11 BK279.out)) : gb284 ≠ gb279))
           clear BK277
           clear BK278
           clear BK279
           clear HB
           have BK277 := n0_
           have BK278 := n1_
           have BK279 := n2_
           have HB := n3_
           have BK284 := n4_
           have GW284 := n5_
           have GE284 := n6_
           have NB277_284 := n7_
           have NB284_277 := n8_
           have NB278_284 := n9_
           have NB284_278 := n10_
           have NB279_284 := n11_
           have NB284_279 := n12_
           clear n0_ n1_ n2_ n3_ n4_ n5_ n6_ n7_ n8_ n9_ n10_ n11_ n12_
           clear hb hbox hg
           refine hK.out _ _ ⟨(Xd BK277.out 0).trans rfl, (Xd BK277.out 1).trans rfl, (Xd BK277.out 2).trans rfl, (Xd BK277.out 3).trans rfl, (Xd BK278.out 0).trans rfl, (Xd BK278.out 1).trans rfl, (Xd BK278.out 2).trans rfl, (Xd BK278.out 3).trans rfl⟩ (fun hHeld => ?_)
           clear hK K
           refine Xm (a' := ?_) ?_ ?_
           rotate_left
           ·show Act.put _ (some 5) _ = _
            simp only [Act.put, Xa, Xb, Xc, i64_w, i32_w]
            rfl
           exact Xm (by first | (simp only [Xk, Act.put, Xa, Xb, Xc]; done) | (simp only [Xk, Act.put, Xa, Xb, Xc]; rfl)) (hJ4_21 (gb284) _ ⟨hHeld, (bb_11 BK277.out), (bb_11 BK278.out), (bb_11 BK279.out), (bb_11 BK284.out), GW284.out, GE284.out, NB277_284.out, NB284_277.out, NB278_284.out, NB284_278.out, NB279_284.out, NB284_279.out, (hb_11 HB.out)⟩)
        ·skip
         rintro gb284 w32 ⟨hS_, h0_, h1_, h2_, h3_, h4_, h5_, h6_, h7_, h8_, h9_, h10_, h11_, h12_⟩
         have n0_ : Xe (w32.heap[gb277]? = some (.cells #[.int .i64 a0_0, .int .i64 a0_1, .int .i64 a0_2, .int .i64 a0_3] 37 (0, 0))) := ⟨h0_⟩
         have n1_ : Xe (w32.heap[gb278]? = some (.cells #[.int .i64 a1_0, .int .i64 a1_1, .int .i64 a1_2, .int .i64 a1_3] 37 (0, 0))) := ⟨h1_⟩
         have n2_ : Xe (w32.heap[gb279]? = some (.cells #[.int .i64 0, .int .i64 0, .int .i64 0, .int .i64 0] 37 (0, 0))) := ⟨h2_⟩
         have n3_ : Xe (w32.heap[gb284]? = some (.cells #[.int .i64 0, .int .i64 0, .int .i64 0, .int .i64 0] 37 (0, 0))) := ⟨h3_⟩
         have n4_ : Xe (w.heap.size ≤ gb284) := ⟨h4_⟩
         have n5_ : Xe (w.heap.size ≤ gb284) := ⟨h5_⟩
         have n6_ : Xe (gb277 ≠ gb284) := ⟨h6_⟩
         have n7_ : Xe (gb284 ≠ gb277) := ⟨h7_⟩
         have n8_ : Xe (gb278 ≠ gb284) := ⟨h8_⟩
         have n9_ : Xe (gb284 ≠ gb278) := ⟨h9_⟩
         have n10_ : Xe (gb279 ≠ gb284) := ⟨h10_⟩
         have n11_ : Xe (gb284 ≠ gb279) := ⟨h11_⟩
         have n12_ : Xe (Below w.heap.size w w32) := ⟨h12_⟩
         clear BK277
         clear BK278
         clear BK279
         clear HB
         clear h0_ h1_ h2_ h3_ h4_ h5_ h6_ h7_ h8_ h9_ h10_ h11_ h12_
         have BK277 := n0_
         have BK278 := n1_
         have BK279 := n2_
         have BK284 := n3_
         have GW284 := n4_
         have GE284 := n5_
         have NB277_284 := n6_
         have NB284_277 := n7_
         have NB278_284 := n8_
         have NB284_278 := n9_
         have NB279_284 := n10_
         have NB284_279 := n11_
         have HB := n12_
         clear n0_ n1_ n2_ n3_ n4_ n5_ n6_ n7_ n8_ n9_ n10_ n11_ n12_
         have hHeld : w32.cell? ⟨gb277, 0, none⟩ = some (.int .i64 a0_0) ∧ w32.cell? ⟨gb277, 1, none⟩ = some (.int .i64 a0_1) ∧ w32.cell? ⟨gb277, 2, none⟩ = some (.int .i64 a0_2) ∧ w32.cell? ⟨gb277, 3, none⟩ = some (.int .i64 a0_3) ∧ w32.cell? ⟨gb278, 0, none⟩ = some (.int .i64 a1_0) ∧ w32.cell? ⟨gb278, 1, none⟩ = some (.int .i64 a1_1) ∧ w32.cell? ⟨gb278, 2, none⟩ = some (.int .i64 a1_2) ∧ w32.cell? ⟨gb278, 3, none⟩ = some (.int .i64 a1_3) := hS_
         refine Xm (a' := ?_) ?_ ?_
         rotate_left
         ·simp only [Xk, Act.put, Xa, Xb, Xc]
          rfl
         refine one_ (i := 9) (N := some 15) #[Zt,Zt,Zt,Zt,Zt,Zt,Zt,Zt,Zt,Zt,Zt,Zt,Zt,Zt,Zf,Zt,Zt,Zt,Zt,Zf,Zf,Zt,Zf] rfl rfl (one_of HT_.out (by kernel_rfl)) (by decide) (fun K hK => ?_)
         refine goes_ Try.func73 (by kernel_rfl) rfl #[.int .i64 a0_1, .int .i64 a1_1] (by rfl) rfl rfl (by (try simp only [List.map_toArray, List.map_cons, List.map_nil]); first | done | rfl | (simp only [List.length_drop, List.length_take]; rfl)) ?_
         with_reducible refine (gatherumref04_high.calls a0_1 a1_1 t281 _ A4.out).mono ?_
         rintro e w' ⟨rfl, ⟨nd, rfl⟩⟩
         refine ⟨_, rfl, ?_⟩
         refine hK.out _ _ ⟨(Xd BK277.out 0).trans rfl, (Xd BK277.out 1).trans rfl, (Xd BK277.out 2).trans rfl, (Xd BK277.out 3).trans rfl, (Xd BK278.out 0).trans rfl, (Xd BK278.out 1).trans rfl, (Xd BK278.out 2).trans rfl, (Xd BK278.out 3).trans rfl⟩ (fun hHeld => ?_)
         clear hK K
         refine Xm (a' := ?_) ?_ ?_
         rotate_left
         ·show Act.put _ (some 15) _ = _
          simp only [Act.put, Xa, Xb, Xc, i64_w, i32_w]
          rfl
         exact Xm (by first | (simp only [Xk, Act.put, Xa, Xb, Xc]; done) | (simp only [Xk, Act.put, Xa, Xb, Xc]; rfl)) (hJ4_9_21 (gb284) _ ⟨hHeld, (bb_11 BK277.out), (bb_11 BK278.out), (bb_11 BK279.out), (bb_11 BK284.out), GW284.out, GE284.out, NB277_284.out, NB284_277.out, NB278_284.out, NB284_278.out, NB279_284.out, NB284_279.out, (hb_11 HB.out)⟩)
       ·skip
        rintro _ w31 ⟨hS_, h0_, h1_, h2_, h3_⟩
        have n0_ : Xe (w31.heap[gb277]? = some (.cells #[.int .i64 a0_0, .int .i64 a0_1, .int .i64 a0_2, .int .i64 a0_3] 37 (0, 0))) := ⟨h0_⟩
        have n1_ : Xe (w31.heap[gb278]? = some (.cells #[.int .i64 a1_0, .int .i64 a1_1, .int .i64 a1_2, .int .i64 a1_3] 37 (0, 0))) := ⟨h1_⟩
        have n2_ : Xe (w31.heap[gb279]? = some (.cells #[.int .i64 0, .int .i64 0, .int .i64 0, .int .i64 0] 37 (0, 0))) := ⟨h2_⟩
        have n3_ : Xe (Below w.heap.size w w31) := ⟨h3_⟩
        clear BK277
        clear BK278
        clear BK279
        clear HB
        clear h0_ h1_ h2_ h3_
        have BK277 := n0_
        have BK278 := n1_
        have BK279 := n2_
        have HB := n3_
        clear n0_ n1_ n2_ n3_
        have hHeld : w31.cell? ⟨gb277, 0, none⟩ = some (.int .i64 a0_0) ∧ w31.cell? ⟨gb277, 1, none⟩ = some (.int .i64 a0_1) ∧ w31.cell? ⟨gb277, 2, none⟩ = some (.int .i64 a0_2) ∧ w31.cell? ⟨gb277, 3, none⟩ = some (.int .i64 a0_3) ∧ w31.cell? ⟨gb278, 0, none⟩ = some (.int .i64 a1_0) ∧ w31.cell? ⟨gb278, 1, none⟩ = some (.int .i64 a1_1) ∧ w31.cell? ⟨gb278, 2, none⟩ = some (.int .i64 a1_2) ∧ w31.cell? ⟨gb278, 3, none⟩ = some (.int .i64 a1_3) := hS_
        refine Xm (a' := ?_) ?_ ?_
        rotate_left
        ·simp only [Xk, Act.put, Xa, Xb, Xc]
         rfl
        refine two_ (i := 14) (j := 21) (Ni := some 20) (Nj := some 5) #[Zt,Zt,Zt,Zt,Zt,Zt,Zt,Zt,Zt,Zt,Zt,Zt,Zt,Zt,Zt,Zt,Zt,Zt,Zt,Zf,Zf,Zf,Zf] #[Zt,Zt,Zt,Zt,Zt,Zt,Zt,Zt,Zt,Zt,Zt,Zt,Zt,Zt,Zf,Zt,Zt,Zt,Zt,Zf,Zf,Zt,Zf] rfl rfl rfl rfl (two_of HT_.out (by kernel_rfl)) (by decide) (by decide) (fun K hK => ?_) (fun K hK => ?_)
        ·skip
         refine goes_ Try.func72 (by kernel_rfl) rfl #[.int .i64 a0_2, .int .i64 a1_2] (by rfl) rfl rfl (by (try simp only [List.map_toArray, List.map_cons, List.map_nil]); first | done | rfl | (simp only [List.length_drop, List.length_take]; rfl)) ?_
         with_reducible refine (gatherumref04_low.calls a0_2 a1_2 t282 _ A5.out).mono ?_
         rintro e w' ⟨rfl, ⟨nd, rfl⟩⟩
         refine ⟨_, rfl, ?_⟩
         refine hK.out _ _ ⟨(Xd BK277.out 0).trans rfl, (Xd BK277.out 1).trans rfl, (Xd BK277.out 2).trans rfl, (Xd BK277.out 3).trans rfl, (Xd BK278.out 0).trans rfl, (Xd BK278.out 1).trans rfl, (Xd BK278.out 2).trans rfl, (Xd BK278.out 3).trans rfl⟩ (fun hHeld => ?_)
         clear hK K
         refine Xm (a' := ?_) ?_ ?_
         rotate_left
         ·show Act.put _ (some 20) _ = _
          simp only [Act.put, Xa, Xb, Xc, i64_w, i32_w]
          rfl
         exact Xm (by first | (simp only [Xk, Act.put, Xa, Xb, Xc]; done) | (simp only [Xk, Act.put, Xa, Xb, Xc]; rfl)) (hJ4_9_14 () _ ⟨hHeld, (bb_11 BK277.out), (bb_11 BK278.out), (bb_11 BK279.out), (hb_11 HB.out)⟩)
        ·skip
         refine box_step ?hg (N := 5) ?hd (cs := #[.int .i64 0, .int .i64 0, .int .i64 0, .int .i64 0]) (t := 37) ?hr ?_; (case hd => rfl); (case hg => rfl); (case hr => first | (go_simp; done) | (go_simp; rfl))
         intro gb284 hg w32 hbox hb
         have n0_ := Za (Xl (g := gb277) (o := .cells #[.int .i64 a0_0, .int .i64 a0_1, .int .i64 a0_2, .int .i64 a0_3] 37 (0, 0)) (bb_11 BK277.out) hb)
         have n1_ := Za (Xl (g := gb278) (o := .cells #[.int .i64 a1_0, .int .i64 a1_1, .int .i64 a1_2, .int .i64 a1_3] 37 (0, 0)) (bb_11 BK278.out) hb)
         have n2_ := Za (Xl (g := gb279) (o := .cells #[.int .i64 0, .int .i64 0, .int .i64 0, .int .i64 0] 37 (0, 0)) (bb_11 BK279.out) hb)
         have n3_ := Za (below_step (hb_11 HB.out) hb)
         have n4_ := Za (hbox)
         have n5_ := Za ((by rw [hg]; exact (Xn (hb_11 HB.out)) : w.heap.size ≤ gb284))
         have n6_ := Za ((by rw [hg]; exact (Xn (hb_11 HB.out)) : w.heap.size ≤ gb284))
         have n7_ := Za ((by rw [hg]; exact Nat.ne_of_lt (Xj (g := gb277) (o := .cells #[.int .i64 a0_0, .int .i64 a0_1, .int .i64 a0_2, .int .i64 a0_3] 37 (0, 0)) (bb_11 BK277.out)) : gb277 ≠ gb284))
         have n8_ := Za ((by rw [hg]; exact Nat.ne_of_gt (Xj (g := gb277) (o := .cells #[.int .i64 a0_0, .int .i64 a0_1, .int .i64 a0_2, .int .i64 a0_3] 37 (0, 0)) (bb_11 BK277.out)) : gb284 ≠ gb277))
         have n9_ := Za ((by rw [hg]; exact Nat.ne_of_lt (Xj (g := gb278) (o := .cells #[.int .i64 a1_0, .int .i64 a1_1, .int .i64 a1_2, .int .i64 a1_3] 37 (0, 0)) (bb_11 BK278.out)) : gb278 ≠ gb284))
         have n10_ := Za ((by rw [hg]; exact Nat.ne_of_gt (Xj (g := gb278) (o := .cells #[.int .i64 a1_0, .int .i64 a1_1, .int .i64 a1_2, .int .i64 a1_3] 37 (0, 0)) (bb_11 BK278.out)) : gb284 ≠ gb278))
         have n11_ := Za ((by rw [hg]; exact Nat.ne_of_lt (Xj (g := gb279) (o := .cells #[.int .i64 0, .int .i64 0, .int .i64 0, .int .i64 0] 37 (0, 0)) (bb_11 BK279.out)) : gb279 ≠ gb284))
         have n12_ := Za ((by rw [hg]; exact Nat.ne_of_gt (Xj (g := gb279) (o := .cells #[.int .i64 0, .int .i64 0, .int .i64 0, .int .i64 0] 37 (0, 0)) (bb_11 BK279.out)) : gb284 ≠ gb279))
         clear BK277
         clear BK278
         clear BK279
         clear HB
         have BK277 := n0_
         have BK278 := n1_
         have BK279 := n2_
         have HB := n3_
         have BK284 := n4_
         have GW284 := n5_
         have GE284 := n6_
         have NB277_284 := n7_
         have NB284_277 := n8_
         have NB278_284 := n9_
         have NB284_278 := n10_
         have NB279_284 := n11_
         have NB284_279 := n12_
         clear n0_ n1_ n2_ n3_ n4_ n5_ n6_ n7_ n8_ n9_ n10_ n11_ n12_
         clear hb hbox hg
         refine hK.out _ _ ⟨(Xd BK277.out 0).trans rfl, (Xd BK277.out 1).trans rfl, (Xd BK277.out 2).trans rfl, (Xd BK277.out 3).trans rfl, (Xd BK278.out 0).trans rfl, (Xd BK278.out 1).trans rfl, (Xd BK278.out 2).trans rfl, (Xd BK278.out 3).trans rfl⟩ (fun hHeld => ?_)
         clear hK K
         refine Xm (a' := ?_) ?_ ?_
         rotate_left
         ·show Act.put _ (some 5) _ = _
          simp only [Act.put, Xa, Xb, Xc, i64_w, i32_w]
          rfl
         exact Xm (by first | (simp only [Xk, Act.put, Xa, Xb, Xc]; done) | (simp only [Xk, Act.put, Xa, Xb, Xc]; rfl)) (hJ4_9_21 (gb284) _ ⟨hHeld, (bb_11 BK277.out), (bb_11 BK278.out), (bb_11 BK279.out), (bb_11 BK284.out), GW284.out, GE284.out, NB277_284.out, NB284_277.out, NB278_284.out, NB284_278.out, NB279_284.out, NB284_279.out, (hb_11 HB.out)⟩)
      ·skip
       rintro gb284 w32 ⟨hS_, h0_, h1_, h2_, h3_, h4_, h5_, h6_, h7_, h8_, h9_, h10_, h11_, h12_⟩
       have n0_ : Xe (w32.heap[gb277]? = some (.cells #[.int .i64 a0_0, .int .i64 a0_1, .int .i64 a0_2, .int .i64 a0_3] 37 (0, 0))) := ⟨h0_⟩
       have n1_ : Xe (w32.heap[gb278]? = some (.cells #[.int .i64 a1_0, .int .i64 a1_1, .int .i64 a1_2, .int .i64 a1_3] 37 (0, 0))) := ⟨h1_⟩
       have n2_ : Xe (w32.heap[gb279]? = some (.cells #[.int .i64 0, .int .i64 0, .int .i64 0, .int .i64 0] 37 (0, 0))) := ⟨h2_⟩
       have n3_ : Xe (w32.heap[gb284]? = some (.cells #[.int .i64 0, .int .i64 0, .int .i64 0, .int .i64 0] 37 (0, 0))) := ⟨h3_⟩
       have n4_ : Xe (w.heap.size ≤ gb284) := ⟨h4_⟩
       have n5_ : Xe (w.heap.size ≤ gb284) := ⟨h5_⟩
       have n6_ : Xe (gb277 ≠ gb284) := ⟨h6_⟩
       have n7_ : Xe (gb284 ≠ gb277) := ⟨h7_⟩
       have n8_ : Xe (gb278 ≠ gb284) := ⟨h8_⟩
       have n9_ : Xe (gb284 ≠ gb278) := ⟨h9_⟩
       have n10_ : Xe (gb279 ≠ gb284) := ⟨h10_⟩
       have n11_ : Xe (gb284 ≠ gb279) := ⟨h11_⟩
       have n12_ : Xe (Below w.heap.size w w32) := ⟨h12_⟩
       clear BK277
       clear BK278
       clear BK279
       clear HB
       clear h0_ h1_ h2_ h3_ h4_ h5_ h6_ h7_ h8_ h9_ h10_ h11_ h12_
       have BK277 := n0_
       have BK278 := n1_
       have BK279 := n2_
       have BK284 := n3_
       have GW284 := n4_
       have GE284 := n5_
       have NB277_284 := n6_
       have NB284_277 := n7_
       have NB278_284 := n8_
       have NB284_278 := n9_
       have NB279_284 := n10_
       have NB284_279 := n11_
       have HB := n12_
       clear n0_ n1_ n2_ n3_ n4_ n5_ n6_ n7_ n8_ n9_ n10_ n11_ n12_
       have hHeld : w32.cell? ⟨gb277, 0, none⟩ = some (.int .i64 a0_0) ∧ w32.cell? ⟨gb277, 1, none⟩ = some (.int .i64 a0_1) ∧ w32.cell? ⟨gb277, 2, none⟩ = some (.int .i64 a0_2) ∧ w32.cell? ⟨gb277, 3, none⟩ = some (.int .i64 a0_3) ∧ w32.cell? ⟨gb278, 0, none⟩ = some (.int .i64 a1_0) ∧ w32.cell? ⟨gb278, 1, none⟩ = some (.int .i64 a1_1) ∧ w32.cell? ⟨gb278, 2, none⟩ = some (.int .i64 a1_2) ∧ w32.cell? ⟨gb278, 3, none⟩ = some (.int .i64 a1_3) := hS_
       refine Xm (a' := ?_) ?_ ?_
       rotate_left
       ·simp only [Xk, Act.put, Xa, Xb, Xc]
        rfl
       refine one_ (i := 14) (N := some 20) #[Zt,Zt,Zt,Zt,Zt,Zt,Zt,Zt,Zt,Zt,Zt,Zt,Zt,Zt,Zt,Zt,Zt,Zt,Zt,Zf,Zf,Zt,Zf] rfl rfl (one_of HT_.out (by kernel_rfl)) (by decide) (fun K hK => ?_)
       refine goes_ Try.func72 (by kernel_rfl) rfl #[.int .i64 a0_2, .int .i64 a1_2] (by rfl) rfl rfl (by (try simp only [List.map_toArray, List.map_cons, List.map_nil]); first | done | rfl | (simp only [List.length_drop, List.length_take]; rfl)) ?_
       with_reducible refine (gatherumref04_low.calls a0_2 a1_2 t282 _ A5.out).mono ?_
       rintro e w' ⟨rfl, ⟨nd, rfl⟩⟩
       refine ⟨_, rfl, ?_⟩
       refine hK.out _ _ ⟨(Xd BK277.out 0).trans rfl, (Xd BK277.out 1).trans rfl, (Xd BK277.out 2).trans rfl, (Xd BK277.out 3).trans rfl, (Xd BK278.out 0).trans rfl, (Xd BK278.out 1).trans rfl, (Xd BK278.out 2).trans rfl, (Xd BK278.out 3).trans rfl⟩ (fun hHeld => ?_)
       clear hK K
       refine Xm (a' := ?_) ?_ ?_
       rotate_left
       ·show Act.put _ (some 20) _ = _
        simp only [Act.put, Xa, Xb, Xc, i64_w, i32_w]
        rfl
       exact Xm (by first | (simp only [Xk, Act.put, Xa, Xb, Xc]; done) | (simp only [Xk, Act.put, Xa, Xb, Xc]; rfl)) (hJ4_9_14_21 (gb284) _ ⟨hHeld, (bb_11 BK277.out), (bb_11 BK278.out), (bb_11 BK279.out), (bb_11 BK284.out), GW284.out, GE284.out, NB277_284.out, NB284_277.out, NB278_284.out, NB284_278.out, NB279_284.out, NB284_279.out, (hb_11 HB.out)⟩)
     ·skip
      rintro _ w31 ⟨hS_, h0_, h1_, h2_, h3_⟩
      have n0_ : Xe (w31.heap[gb277]? = some (.cells #[.int .i64 a0_0, .int .i64 a0_1, .int .i64 a0_2, .int .i64 a0_3] 37 (0, 0))) := ⟨h0_⟩
      have n1_ : Xe (w31.heap[gb278]? = some (.cells #[.int .i64 a1_0, .int .i64 a1_1, .int .i64 a1_2, .int .i64 a1_3] 37 (0, 0))) := ⟨h1_⟩
      have n2_ : Xe (w31.heap[gb279]? = some (.cells #[.int .i64 0, .int .i64 0, .int .i64 0, .int .i64 0] 37 (0, 0))) := ⟨h2_⟩
      have n3_ : Xe (Below w.heap.size w w31) := ⟨h3_⟩
      clear BK277
      clear BK278
      clear BK279
      clear HB
      clear h0_ h1_ h2_ h3_
      have BK277 := n0_
      have BK278 := n1_
      have BK279 := n2_
      have HB := n3_
      clear n0_ n1_ n2_ n3_
      have hHeld : w31.cell? ⟨gb277, 0, none⟩ = some (.int .i64 a0_0) ∧ w31.cell? ⟨gb277, 1, none⟩ = some (.int .i64 a0_1) ∧ w31.cell? ⟨gb277, 2, none⟩ = some (.int .i64 a0_2) ∧ w31.cell? ⟨gb277, 3, none⟩ = some (.int .i64 a0_3) ∧ w31.cell? ⟨gb278, 0, none⟩ = some (.int .i64 a1_0) ∧ w31.cell? ⟨gb278, 1, none⟩ = some (.int .i64 a1_1) ∧ w31.cell? ⟨gb278, 2, none⟩ = some (.int .i64 a1_2) ∧ w31.cell? ⟨gb278, 3, none⟩ = some (.int .i64 a1_3) := hS_
      refine Xm (a' := ?_) ?_ ?_
      rotate_left
      ·simp only [Xk, Act.put, Xa, Xb, Xc]
       rfl
      refine two_ (i := 19) (j := 21) (Ni := some 25) (Nj := some 5) #[Zt,Zt,Zt,Zt,Zt,Zt,Zt,Zt,Zt,Zt,Zt,Zt,Zt,Zt,Zt,Zt,Zt,Zt,Zt,Zt,Zf,Zf,Zf] #[Zt,Zt,Zt,Zt,Zt,Zt,Zt,Zt,Zt,Zt,Zt,Zt,Zt,Zt,Zt,Zt,Zt,Zt,Zt,Zf,Zf,Zt,Zf] rfl rfl rfl rfl (two_of HT_.out (by kernel_rfl)) (by decide) (by decide) (fun K hK => ?_) (fun K hK => ?_)
      ·skip
       refine goes_ Try.func72 (by kernel_rfl) rfl #[.int .i64 a0_3, .int .i64 a1_3] (by rfl) rfl rfl (by (try simp only [List.map_toArray, List.map_cons, List.map_nil]); first | done | rfl | (simp only [List.length_drop, List.length_take]; rfl)) ?_
       with_reducible refine (gatherumref04_low.calls a0_3 a1_3 t283 _ A6.out).mono ?_
       rintro e w' ⟨rfl, ⟨nd, rfl⟩⟩
       refine ⟨_, rfl, ?_⟩
       refine hK.out _ _ ⟨(Xd BK277.out 0).trans rfl, (Xd BK277.out 1).trans rfl, (Xd BK277.out 2).trans rfl, (Xd BK277.out 3).trans rfl, (Xd BK278.out 0).trans rfl, (Xd BK278.out 1).trans rfl, (Xd BK278.out 2).trans rfl, (Xd BK278.out 3).trans rfl⟩ (fun hHeld => ?_)
       clear hK K
       refine Xm (a' := ?_) ?_ ?_
       rotate_left
       ·show Act.put _ (some 25) _ = _
        simp only [Act.put, Xa, Xb, Xc, i64_w, i32_w]
        rfl
       refine pure_ (i := 20) (N := some 26) (v := ?_) (a' := ?_) #[Zt,Zt,Zt,Zt,Zt,Zt,Zt,Zt,Zt,Zt,Zt,Zt,Zt,Zt,Zt,Zt,Zt,Zt,Zt,Zt,Zt,Zf,Zf] rfl rfl (any_of HT_.out (by kernel_rfl)) (fun _ _ _ h => h) (Or.inl ⟨by rfl, ?_⟩) ?_ ?_
       rotate_left
       ·intro w'
        go_simp
        with_reducible rfl
       rotate_left
       ·simp only [Act.put, Xa, Xb, Xc, i64_w, i32_w]
        rfl
       exact Xm (by first | (simp only [Xk, Act.put, Xa, Xb, Xc]; done) | (simp only [Xk, Act.put, Xa, Xb, Xc]; rfl)) (hJ4_9_14_19 () _ ⟨hHeld, (bb_11 BK277.out), (bb_11 BK278.out), (bb_11 BK279.out), (hb_11 HB.out)⟩)
      ·skip
       refine box_step ?hg (N := 5) ?hd (cs := #[.int .i64 0, .int .i64 0, .int .i64 0, .int .i64 0]) (t := 37) ?hr ?_; (case hd => rfl); (case hg => rfl); (case hr => first | (go_simp; done) | (go_simp; rfl))
       intro gb284 hg w32 hbox hb
       have n0_ := Za (Xl (g := gb277) (o := .cells #[.int .i64 a0_0, .int .i64 a0_1, .int .i64 a0_2, .int .i64 a0_3] 37 (0, 0)) (bb_11 BK277.out) hb)
       have n1_ := Za (Xl (g := gb278) (o := .cells #[.int .i64 a1_0, .int .i64 a1_1, .int .i64 a1_2, .int .i64 a1_3] 37 (0, 0)) (bb_11 BK278.out) hb)
       have n2_ := Za (Xl (g := gb279) (o := .cells #[.int .i64 0, .int .i64 0, .int .i64 0, .int .i64 0] 37 (0, 0)) (bb_11 BK279.out) hb)
       have n3_ := Za (below_step (hb_11 HB.out) hb)
       have n4_ := Za (hbox)
       have n5_ := Za ((by rw [hg]; exact (Xn (hb_11 HB.out)) : w.heap.size ≤ gb284))
       have n6_ := Za ((by rw [hg]; exact (Xn (hb_11 HB.out)) : w.heap.size ≤ gb284))
       have n7_ := Za ((by rw [hg]; exact Nat.ne_of_lt (Xj (g := gb277) (o := .cells #[.int .i64 a0_0, .int .i64 a0_1, .int .i64 a0_2, .int .i64 a0_3] 37 (0, 0)) (bb_11 BK277.out)) : gb277 ≠ gb284))
       have n8_ := Za ((by rw [hg]; exact Nat.ne_of_gt (Xj (g := gb277) (o := .cells #[.int .i64 a0_0, .int .i64 a0_1, .int .i64 a0_2, .int .i64 a0_3] 37 (0, 0)) (bb_11 BK277.out)) : gb284 ≠ gb277))
       have n9_ := Za ((by rw [hg]; exact Nat.ne_of_lt (Xj (g := gb278) (o := .cells #[.int .i64 a1_0, .int .i64 a1_1, .int .i64 a1_2, .int .i64 a1_3] 37 (0, 0)) (bb_11 BK278.out)) : gb278 ≠ gb284))
       have n10_ := Za ((by rw [hg]; exact Nat.ne_of_gt (Xj (g := gb278) (o := .cells #[.int .i64 a1_0, .int .i64 a1_1, .int .i64 a1_2, .int .i64 a1_3] 37 (0, 0)) (bb_11 BK278.out)) : gb284 ≠ gb278))
       have n11_ := Za ((by rw [hg]; exact Nat.ne_of_lt (Xj (g := gb279) (o := .cells #[.int .i64 0, .int .i64 0, .int .i64 0, .int .i64 0] 37 (0, 0)) (bb_11 BK279.out)) : gb279 ≠ gb284))
       have n12_ := Za ((by rw [hg]; exact Nat.ne_of_gt (Xj (g := gb279) (o := .cells #[.int .i64 0, .int .i64 0, .int .i64 0, .int .i64 0] 37 (0, 0)) (bb_11 BK279.out)) : gb284 ≠ gb279))
       clear BK277
       clear BK278
       clear BK279
       clear HB
       have BK277 := n0_
       have BK278 := n1_
       have BK279 := n2_
       have HB := n3_
       have BK284 := n4_
       have GW284 := n5_
       have GE284 := n6_
       have NB277_284 := n7_
       have NB284_277 := n8_
       have NB278_284 := n9_
       have NB284_278 := n10_
       have NB279_284 := n11_
       have NB284_279 := n12_
       clear n0_ n1_ n2_ n3_ n4_ n5_ n6_ n7_ n8_ n9_ n10_ n11_ n12_
       clear hb hbox hg
       refine hK.out _ _ ⟨(Xd BK277.out 0).trans rfl, (Xd BK277.out 1).trans rfl, (Xd BK277.out 2).trans rfl, (Xd BK277.out 3).trans rfl, (Xd BK278.out 0).trans rfl, (Xd BK278.out 1).trans rfl, (Xd BK278.out 2).trans rfl, (Xd BK278.out 3).trans rfl⟩ (fun hHeld => ?_)
       clear hK K
       refine Xm (a' := ?_) ?_ ?_
       rotate_left
       ·show Act.put _ (some 5) _ = _
        simp only [Act.put, Xa, Xb, Xc, i64_w, i32_w]
        rfl
       exact Xm (by first | (simp only [Xk, Act.put, Xa, Xb, Xc]; done) | (simp only [Xk, Act.put, Xa, Xb, Xc]; rfl)) (hJ4_9_14_21 (gb284) _ ⟨hHeld, (bb_11 BK277.out), (bb_11 BK278.out), (bb_11 BK279.out), (bb_11 BK284.out), GW284.out, GE284.out, NB277_284.out, NB284_277.out, NB278_284.out, NB284_278.out, NB279_284.out, NB284_279.out, (hb_11 HB.out)⟩)
    ·skip
     rintro gb284 w32 ⟨hS_, h0_, h1_, h2_, h3_, h4_, h5_, h6_, h7_, h8_, h9_, h10_, h11_, h12_⟩
     have n0_ : Xe (w32.heap[gb277]? = some (.cells #[.int .i64 a0_0, .int .i64 a0_1, .int .i64 a0_2, .int .i64 a0_3] 37 (0, 0))) := ⟨h0_⟩
     have n1_ : Xe (w32.heap[gb278]? = some (.cells #[.int .i64 a1_0, .int .i64 a1_1, .int .i64 a1_2, .int .i64 a1_3] 37 (0, 0))) := ⟨h1_⟩
     have n2_ : Xe (w32.heap[gb279]? = some (.cells #[.int .i64 0, .int .i64 0, .int .i64 0, .int .i64 0] 37 (0, 0))) := ⟨h2_⟩
     have n3_ : Xe (w32.heap[gb284]? = some (.cells #[.int .i64 0, .int .i64 0, .int .i64 0, .int .i64 0] 37 (0, 0))) := ⟨h3_⟩
     have n4_ : Xe (w.heap.size ≤ gb284) := ⟨h4_⟩
     have n5_ : Xe (w.heap.size ≤ gb284) := ⟨h5_⟩
     have n6_ : Xe (gb277 ≠ gb284) := ⟨h6_⟩
     have n7_ : Xe (gb284 ≠ gb277) := ⟨h7_⟩
     have n8_ : Xe (gb278 ≠ gb284) := ⟨h8_⟩
     have n9_ : Xe (gb284 ≠ gb278) := ⟨h9_⟩
     have n10_ : Xe (gb279 ≠ gb284) := ⟨h10_⟩
     have n11_ : Xe (gb284 ≠ gb279) := ⟨h11_⟩
     have n12_ : Xe (Below w.heap.size w w32) := ⟨h12_⟩
     clear BK277
     clear BK278
     clear BK279
     clear HB
     clear h0_ h1_ h2_ h3_ h4_ h5_ h6_ h7_ h8_ h9_ h10_ h11_ h12_
     have BK277 := n0_
     have BK278 := n1_
     have BK279 := n2_
     have BK284 := n3_
     have GW284 := n4_
     have GE284 := n5_
     have NB277_284 := n6_
     have NB284_277 := n7_
     have NB278_284 := n8_
     have NB284_278 := n9_
     have NB279_284 := n10_
     have NB284_279 := n11_
     have HB := n12_
     clear n0_ n1_ n2_ n3_ n4_ n5_ n6_ n7_ n8_ n9_ n10_ n11_ n12_
     have hHeld : w32.cell? ⟨gb277, 0, none⟩ = some (.int .i64 a0_0) ∧ w32.cell? ⟨gb277, 1, none⟩ = some (.int .i64 a0_1) ∧ w32.cell? ⟨gb277, 2, none⟩ = some (.int .i64 a0_2) ∧ w32.cell? ⟨gb277, 3, none⟩ = some (.int .i64 a0_3) ∧ w32.cell? ⟨gb278, 0, none⟩ = some (.int .i64 a1_0) ∧ w32.cell? ⟨gb278, 1, none⟩ = some (.int .i64 a1_1) ∧ w32.cell? ⟨gb278, 2, none⟩ = some (.int .i64 a1_2) ∧ w32.cell? ⟨gb278, 3, none⟩ = some (.int .i64 a1_3) := hS_
     refine Xm (a' := ?_) ?_ ?_
     rotate_left
     ·simp only [Xk, Act.put, Xa, Xb, Xc]
      rfl
     refine one_ (i := 19) (N := some 25) #[Zt,Zt,Zt,Zt,Zt,Zt,Zt,Zt,Zt,Zt,Zt,Zt,Zt,Zt,Zt,Zt,Zt,Zt,Zt,Zt,Zf,Zt,Zf] rfl rfl (one_of HT_.out (by kernel_rfl)) (by decide) (fun K hK => ?_)
     refine goes_ Try.func72 (by kernel_rfl) rfl #[.int .i64 a0_3, .int .i64 a1_3] (by rfl) rfl rfl (by (try simp only [List.map_toArray, List.map_cons, List.map_nil]); first | done | rfl | (simp only [List.length_drop, List.length_take]; rfl)) ?_
     with_reducible refine (gatherumref04_low.calls a0_3 a1_3 t283 _ A6.out).mono ?_
     rintro e w' ⟨rfl, ⟨nd, rfl⟩⟩
     refine ⟨_, rfl, ?_⟩
     refine hK.out _ _ ⟨(Xd BK277.out 0).trans rfl, (Xd BK277.out 1).trans rfl, (Xd BK277.out 2).trans rfl, (Xd BK277.out 3).trans rfl, (Xd BK278.out 0).trans rfl, (Xd BK278.out 1).trans rfl, (Xd BK278.out 2).trans rfl, (Xd BK278.out 3).trans rfl⟩ (fun hHeld => ?_)
     clear hK K
     refine Xm (a' := ?_) ?_ ?_
     rotate_left
     ·show Act.put _ (some 25) _ = _
      simp only [Act.put, Xa, Xb, Xc, i64_w, i32_w]
      rfl
     refine pure_ (i := 20) (N := some 26) (v := ?_) (a' := ?_) #[Zt,Zt,Zt,Zt,Zt,Zt,Zt,Zt,Zt,Zt,Zt,Zt,Zt,Zt,Zt,Zt,Zt,Zt,Zt,Zt,Zt,Zt,Zf] rfl rfl (any_of HT_.out (by kernel_rfl)) (fun _ _ _ h => h) (Or.inl ⟨by rfl, ?_⟩) ?_ ?_
     rotate_left
     ·intro w'
      go_simp
      with_reducible rfl
     rotate_left
     ·simp only [Act.put, Xa, Xb, Xc, i64_w, i32_w]
      rfl
     exact Xm (by first | (simp only [Xk, Act.put, Xa, Xb, Xc]; done) | (simp only [Xk, Act.put, Xa, Xb, Xc]; rfl)) (hJ4_9_14_19_21 (gb284) _ ⟨hHeld, (bb_11 BK277.out), (bb_11 BK278.out), (bb_11 BK279.out), (bb_11 BK284.out), GW284.out, GE284.out, NB277_284.out, NB284_277.out, NB278_284.out, NB284_278.out, NB279_284.out, NB284_279.out, (hb_11 HB.out)⟩)
   ·skip
    rintro _ w31 ⟨hS_, h0_, h1_, h2_, h3_⟩
    have n0_ : Xe (w31.heap[gb277]? = some (.cells #[.int .i64 a0_0, .int .i64 a0_1, .int .i64 a0_2, .int .i64 a0_3] 37 (0, 0))) := ⟨h0_⟩
    have n1_ : Xe (w31.heap[gb278]? = some (.cells #[.int .i64 a1_0, .int .i64 a1_1, .int .i64 a1_2, .int .i64 a1_3] 37 (0, 0))) := ⟨h1_⟩
    have n2_ : Xe (w31.heap[gb279]? = some (.cells #[.int .i64 0, .int .i64 0, .int .i64 0, .int .i64 0] 37 (0, 0))) := ⟨h2_⟩
    have n3_ : Xe (Below w.heap.size w w31) := ⟨h3_⟩
    clear BK277
    clear BK278
    clear BK279
    clear HB
    clear h0_ h1_ h2_ h3_
    have BK277 := n0_
    have BK278 := n1_
    have BK279 := n2_
    have HB := n3_
    clear n0_ n1_ n2_ n3_
    have hHeld : w31.cell? ⟨gb277, 0, none⟩ = some (.int .i64 a0_0) ∧ w31.cell? ⟨gb277, 1, none⟩ = some (.int .i64 a0_1) ∧ w31.cell? ⟨gb277, 2, none⟩ = some (.int .i64 a0_2) ∧ w31.cell? ⟨gb277, 3, none⟩ = some (.int .i64 a0_3) ∧ w31.cell? ⟨gb278, 0, none⟩ = some (.int .i64 a1_0) ∧ w31.cell? ⟨gb278, 1, none⟩ = some (.int .i64 a1_1) ∧ w31.cell? ⟨gb278, 2, none⟩ = some (.int .i64 a1_2) ∧ w31.cell? ⟨gb278, 3, none⟩ = some (.int .i64 a1_3) := hS_
    refine Xm (a' := ?_) ?_ ?_
    rotate_left
    ·simp only [Xk, Act.put, Xa, Xb, Xc]
     rfl
    refine one_ (i := 21) (N := some 5) #[Zt,Zt,Zt,Zt,Zt,Zt,Zt,Zt,Zt,Zt,Zt,Zt,Zt,Zt,Zt,Zt,Zt,Zt,Zt,Zt,Zt,Zt,Zf] rfl rfl (one_of HT_.out (by kernel_rfl)) (by decide) (fun K hK => ?_)
    refine box_step ?hg (N := 5) ?hd (cs := #[.int .i64 0, .int .i64 0, .int .i64 0, .int .i64 0]) (t := 37) ?hr ?_; (case hd => rfl); (case hg => rfl); (case hr => first | (go_simp; done) | (go_simp; rfl))
    intro gb284 hg w32 hbox hb
    have n0_ := Za (Xl (g := gb277) (o := .cells #[.int .i64 a0_0, .int .i64 a0_1, .int .i64 a0_2, .int .i64 a0_3] 37 (0, 0)) (bb_11 BK277.out) hb)
    have n1_ := Za (Xl (g := gb278) (o := .cells #[.int .i64 a1_0, .int .i64 a1_1, .int .i64 a1_2, .int .i64 a1_3] 37 (0, 0)) (bb_11 BK278.out) hb)
    have n2_ := Za (Xl (g := gb279) (o := .cells #[.int .i64 0, .int .i64 0, .int .i64 0, .int .i64 0] 37 (0, 0)) (bb_11 BK279.out) hb)
    have n3_ := Za (below_step (hb_11 HB.out) hb)
    have n4_ := Za (hbox)
    have n5_ := Za ((by rw [hg]; exact (Xn (hb_11 HB.out)) : w.heap.size ≤ gb284))
    have n6_ := Za ((by rw [hg]; exact (Xn (hb_11 HB.out)) : w.heap.size ≤ gb284))
    have n7_ := Za ((by rw [hg]; exact Nat.ne_of_lt (Xj (g := gb277) (o := .cells #[.int .i64 a0_0, .int .i64 a0_1, .int .i64 a0_2, .int .i64 a0_3] 37 (0, 0)) (bb_11 BK277.out)) : gb277 ≠ gb284))
    have n8_ := Za ((by rw [hg]; exact Nat.ne_of_gt (Xj (g := gb277) (o := .cells #[.int .i64 a0_0, .int .i64 a0_1, .int .i64 a0_2, .int .i64 a0_3] 37 (0, 0)) (bb_11 BK277.out)) : gb284 ≠ gb277))
    have n9_ := Za ((by rw [hg]; exact Nat.ne_of_lt (Xj (g := gb278) (o := .cells #[.int .i64 a1_0, .int .i64 a1_1, .int .i64 a1_2, .int .i64 a1_3] 37 (0, 0)) (bb_11 BK278.out)) : gb278 ≠ gb284))
    have n10_ := Za ((by rw [hg]; exact Nat.ne_of_gt (Xj (g := gb278) (o := .cells #[.int .i64 a1_0, .int .i64 a1_1, .int .i64 a1_2, .int .i64 a1_3] 37 (0, 0)) (bb_11 BK278.out)) : gb284 ≠ gb278))
    have n11_ := Za ((by rw [hg]; exact Nat.ne_of_lt (Xj (g := gb279) (o := .cells #[.int .i64 0, .int .i64 0, .int .i64 0, .int .i64 0] 37 (0, 0)) (bb_11 BK279.out)) : gb279 ≠ gb284))
    have n12_ := Za ((by rw [hg]; exact Nat.ne_of_gt (Xj (g := gb279) (o := .cells #[.int .i64 0, .int .i64 0, .int .i64 0, .int .i64 0] 37 (0, 0)) (bb_11 BK279.out)) : gb284 ≠ gb279))
    clear BK277
    clear BK278
    clear BK279
    clear HB
    have BK277 := n0_
    have BK278 := n1_
    have BK279 := n2_
    have HB := n3_
    have BK284 := n4_
    have GW284 := n5_
    have GE284 := n6_
    have NB277_284 := n7_
    have NB284_277 := n8_
    have NB278_284 := n9_
    have NB284_278 := n10_
    have NB279_284 := n11_
    have NB284_279 := n12_
    clear n0_ n1_ n2_ n3_ n4_ n5_ n6_ n7_ n8_ n9_ n10_ n11_ n12_
    clear hb hbox hg
    refine hK.out _ _ ⟨(Xd BK277.out 0).trans rfl, (Xd BK277.out 1).trans rfl, (Xd BK277.out 2).trans rfl, (Xd BK277.out 3).trans rfl, (Xd BK278.out 0).trans rfl, (Xd BK278.out 1).trans rfl, (Xd BK278.out 2).trans rfl, (Xd BK278.out 3).trans rfl⟩ (fun hHeld => ?_)
    clear hK K
    refine Xm (a' := ?_) ?_ ?_
    rotate_left
    ·show Act.put _ (some 5) _ = _
     simp only [Act.put, Xa, Xb, Xc, i64_w, i32_w]
     rfl
    exact Xm (by first | (simp only [Xk, Act.put, Xa, Xb, Xc]; done) | (simp only [Xk, Act.put, Xa, Xb, Xc]; rfl)) (hJ4_9_14_19_21 (gb284) _ ⟨hHeld, (bb_11 BK277.out), (bb_11 BK278.out), (bb_11 BK279.out), (bb_11 BK284.out), GW284.out, GE284.out, NB277_284.out, NB284_277.out, NB278_284.out, NB284_278.out, NB279_284.out, NB284_279.out, (hb_11 HB.out)⟩)
  rintro gb284 w32 ⟨hS_, h0_, h1_, h2_, h3_, h4_, h5_, h6_, h7_, h8_, h9_, h10_, h11_, h12_⟩
  have n0_ : Xe (w32.heap[gb277]? = some (.cells #[.int .i64 a0_0, .int .i64 a0_1, .int .i64 a0_2, .int .i64 a0_3] 37 (0, 0))) := ⟨h0_⟩
  have n1_ : Xe (w32.heap[gb278]? = some (.cells #[.int .i64 a1_0, .int .i64 a1_1, .int .i64 a1_2, .int .i64 a1_3] 37 (0, 0))) := ⟨h1_⟩
  have n2_ : Xe (w32.heap[gb279]? = some (.cells #[.int .i64 0, .int .i64 0, .int .i64 0, .int .i64 0] 37 (0, 0))) := ⟨h2_⟩
  have n3_ : Xe (w32.heap[gb284]? = some (.cells #[.int .i64 0, .int .i64 0, .int .i64 0, .int .i64 0] 37 (0, 0))) := ⟨h3_⟩
  have n4_ : Xe (w.heap.size ≤ gb284) := ⟨h4_⟩
  have n5_ : Xe (w.heap.size ≤ gb284) := ⟨h5_⟩
  have n6_ : Xe (gb277 ≠ gb284) := ⟨h6_⟩
  have n7_ : Xe (gb284 ≠ gb277) := ⟨h7_⟩
  have n8_ : Xe (gb278 ≠ gb284) := ⟨h8_⟩
  have n9_ : Xe (gb284 ≠ gb278) := ⟨h9_⟩
  have n10_ : Xe (gb279 ≠ gb284) := ⟨h10_⟩
  have n11_ : Xe (gb284 ≠ gb279) := ⟨h11_⟩
  have n12_ : Xe (Below w.heap.size w w32) := ⟨h12_⟩
  clear BK277
  clear BK278
  clear BK279
  clear HB
  clear h0_ h1_ h2_ h3_ h4_ h5_ h6_ h7_ h8_ h9_ h10_ h11_ h12_
  have BK277 := n0_
  have BK278 := n1_
  have BK279 := n2_
  have BK284 := n3_
  have GW284 := n4_
  have GE284 := n5_
  have NB277_284 := n6_
  have NB284_277 := n7_
  have NB278_284 := n8_
  have NB284_278 := n9_
  have NB279_284 := n10_
  have NB284_279 := n11_
  have HB := n12_
  clear n0_ n1_ n2_ n3_ n4_ n5_ n6_ n7_ n8_ n9_ n10_ n11_ n12_
  have hHeld : w32.cell? ⟨gb277, 0, none⟩ = some (.int .i64 a0_0) ∧ w32.cell? ⟨gb277, 1, none⟩ = some (.int .i64 a0_1) ∧ w32.cell? ⟨gb277, 2, none⟩ = some (.int .i64 a0_2) ∧ w32.cell? ⟨gb277, 3, none⟩ = some (.int .i64 a0_3) ∧ w32.cell? ⟨gb278, 0, none⟩ = some (.int .i64 a1_0) ∧ w32.cell? ⟨gb278, 1, none⟩ = some (.int .i64 a1_1) ∧ w32.cell? ⟨gb278, 2, none⟩ = some (.int .i64 a1_2) ∧ w32.cell? ⟨gb278, 3, none⟩ = some (.int .i64 a1_3) := hS_
  refine Xm (a' := ?_) ?_ ?_
  rotate_left
  ·simp only [Xk, Act.put, Xa, Xb, Xc]
   rfl
  refine one_ (i := 22) (N := none) #[Zt,Zt,Zt,Zt,Zt,Zt,Zt,Zt,Zt,Zt,Zt,Zt,Zt,Zt,Zt,Zt,Zt,Zt,Zt,Zt,Zt,Zt,Zt] rfl rfl (one_of HT_.out (by kernel_rfl)) (by decide) (fun K hK => ?_)
  have hs33 : w32.cell? ⟨gb284, 0, none⟩ = some (.int .i64 0) := (Xd BK284.out 0).trans rfl
  have hfs33 := Xq BK284.out 0
  have hns33_0 := NB277_284.out
  have hns33_1 := NB278_284.out
  have hns33_2 := NB279_284.out
  have hms33_0 := NB284_277.out
  have hms33_1 := NB284_278.out
  have hms33_2 := NB284_279.out
  have hs34 : w32.cell? ⟨gb284, 1, none⟩ = some (.int .i64 0) := (Xd BK284.out 1).trans rfl
  have hfs34 := Xq BK284.out 1
  have hns34_0 := NB277_284.out
  have hns34_1 := NB278_284.out
  have hns34_2 := NB279_284.out
  have hms34_0 := NB284_277.out
  have hms34_1 := NB284_278.out
  have hms34_2 := NB284_279.out
  have hs35 : w32.cell? ⟨gb284, 2, none⟩ = some (.int .i64 0) := (Xd BK284.out 2).trans rfl
  have hfs35 := Xq BK284.out 2
  have hns35_0 := NB277_284.out
  have hns35_1 := NB278_284.out
  have hns35_2 := NB279_284.out
  have hms35_0 := NB284_277.out
  have hms35_1 := NB284_278.out
  have hms35_2 := NB284_279.out
  have hs36 : w32.cell? ⟨gb284, 3, none⟩ = some (.int .i64 0) := (Xd BK284.out 3).trans rfl
  have hfs36 := Xq BK284.out 3
  have hns36_0 := NB277_284.out
  have hns36_1 := NB278_284.out
  have hns36_2 := NB279_284.out
  have hms36_0 := NB284_277.out
  have hms36_1 := NB284_278.out
  have hms36_2 := NB284_279.out
  refine skip_ (w1 := ?_) (by rfl) rfl ?_ ?_
  rotate_left
  ·go_simp
   rfl
  refine hK.out _ _ ⟨((Xf (p := ⟨gb284, _, none⟩) NB277_284.out _).trans (((Xf (p := ⟨gb284, _, none⟩) NB277_284.out _).trans (((Xf (p := ⟨gb284, _, none⟩) NB277_284.out _).trans (((Xf (p := ⟨gb284, _, none⟩) NB277_284.out _).trans (hHeld.1)))))))), ((Xf (p := ⟨gb284, _, none⟩) NB277_284.out _).trans (((Xf (p := ⟨gb284, _, none⟩) NB277_284.out _).trans (((Xf (p := ⟨gb284, _, none⟩) NB277_284.out _).trans (((Xf (p := ⟨gb284, _, none⟩) NB277_284.out _).trans (hHeld.2.1)))))))), ((Xf (p := ⟨gb284, _, none⟩) NB277_284.out _).trans (((Xf (p := ⟨gb284, _, none⟩) NB277_284.out _).trans (((Xf (p := ⟨gb284, _, none⟩) NB277_284.out _).trans (((Xf (p := ⟨gb284, _, none⟩) NB277_284.out _).trans (hHeld.2.2.1)))))))), ((Xf (p := ⟨gb284, _, none⟩) NB277_284.out _).trans (((Xf (p := ⟨gb284, _, none⟩) NB277_284.out _).trans (((Xf (p := ⟨gb284, _, none⟩) NB277_284.out _).trans (((Xf (p := ⟨gb284, _, none⟩) NB277_284.out _).trans (hHeld.2.2.2.1)))))))), ((Xf (p := ⟨gb284, _, none⟩) NB278_284.out _).trans (((Xf (p := ⟨gb284, _, none⟩) NB278_284.out _).trans (((Xf (p := ⟨gb284, _, none⟩) NB278_284.out _).trans (((Xf (p := ⟨gb284, _, none⟩) NB278_284.out _).trans (hHeld.2.2.2.2.1)))))))), ((Xf (p := ⟨gb284, _, none⟩) NB278_284.out _).trans (((Xf (p := ⟨gb284, _, none⟩) NB278_284.out _).trans (((Xf (p := ⟨gb284, _, none⟩) NB278_284.out _).trans (((Xf (p := ⟨gb284, _, none⟩) NB278_284.out _).trans (hHeld.2.2.2.2.2.1)))))))), ((Xf (p := ⟨gb284, _, none⟩) NB278_284.out _).trans (((Xf (p := ⟨gb284, _, none⟩) NB278_284.out _).trans (((Xf (p := ⟨gb284, _, none⟩) NB278_284.out _).trans (((Xf (p := ⟨gb284, _, none⟩) NB278_284.out _).trans (hHeld.2.2.2.2.2.2.1)))))))), ((Xf (p := ⟨gb284, _, none⟩) NB278_284.out _).trans (((Xf (p := ⟨gb284, _, none⟩) NB278_284.out _).trans (((Xf (p := ⟨gb284, _, none⟩) NB278_284.out _).trans (((Xf (p := ⟨gb284, _, none⟩) NB278_284.out _).trans (hHeld.2.2.2.2.2.2.2))))))))⟩ (fun hHeld => ?_)
  clear hK K
  refine done_ (done_of HT_.out (by kernel_rfl)) ?_
  have hnb37 := NB284_277.out
  have hnc37 := NB277_284.out
  have hnb38 := NB284_278.out
  have hnc38 := NB278_284.out
  have hnb39 := NB284_279.out
  have hnc39 := NB279_284.out
  have hcz40_0 : w32.cell? ⟨gb284, 0, none⟩ = some (.int .i64 0) := (Xd BK284.out 0).trans rfl
  have hcz40_1 : w32.cell? ⟨gb284, 1, none⟩ = some (.int .i64 0) := (Xd BK284.out 1).trans rfl
  have hcz40_2 : w32.cell? ⟨gb284, 2, none⟩ = some (.int .i64 0) := (Xd BK284.out 2).trans rfl
  have hcz40_3 : w32.cell? ⟨gb284, 3, none⟩ = some (.int .i64 0) := (Xd BK284.out 3).trans rfl
  have hfz40_0 := Xq BK284.out 0
  have hfz40_1 := Xq BK284.out 1
  have hfz40_2 := Xq BK284.out 2
  have hfz40_3 := Xq BK284.out 3
  try go_wp2_with (first | ((with_reducible refine gate_callee (f := 18) rfl ?_); refine goesL_ (some 28) rfl rfl Try.func18 (by kernel_rfl) rfl #[.agg #[.int .i64 t280, .int .i64 t281, .int .i64 t282, .int .i64 t283]] rfl (by (try simp only [List.map_toArray, List.map_cons, List.map_nil]); first | done | rfl | (simp only [List.length_drop, List.length_take]; rfl)) ?_; (with_reducible refine (gatherumref04_Empty.calls t280 t281 t282 t283 Zf _ A7.out).mono ?_); rintro e w41 ⟨rfl, hb⟩; refine ⟨_, rfl, ?_⟩; have n0_ := Za (Xl (g := gb277) (o := .cells #[.int .i64 a0_0, .int .i64 a0_1, .int .i64 a0_2, .int .i64 a0_3] 37 (0, 0)) (by (with_reducible repeat (first | refine Xg ?_ _ | refine Xi ?_ | refine Xh ?_ _)); refine blk_far ?_ NB277_284.out _; (with_reducible repeat (first | refine Xg ?_ _ | refine Xi ?_ | refine Xh ?_ _)); refine blk_far ?_ NB277_284.out _; (with_reducible repeat (first | refine Xg ?_ _ | refine Xi ?_ | refine Xh ?_ _)); refine blk_far ?_ NB277_284.out _; (with_reducible repeat (first | refine Xg ?_ _ | refine Xi ?_ | refine Xh ?_ _)); refine blk_far ?_ NB277_284.out _; (with_reducible repeat (first | refine Xg ?_ _ | refine Xi ?_ | refine Xh ?_ _)); exact BK277.out) hb); have n1_ := Za (Xl (g := gb278) (o := .cells #[.int .i64 a1_0, .int .i64 a1_1, .int .i64 a1_2, .int .i64 a1_3] 37 (0, 0)) (by (with_reducible repeat (first | refine Xg ?_ _ | refine Xi ?_ | refine Xh ?_ _)); refine blk_far ?_ NB278_284.out _; (with_reducible repeat (first | refine Xg ?_ _ | refine Xi ?_ | refine Xh ?_ _)); refine blk_far ?_ NB278_284.out _; (with_reducible repeat (first | refine Xg ?_ _ | refine Xi ?_ | refine Xh ?_ _)); refine blk_far ?_ NB278_284.out _; (with_reducible repeat (first | refine Xg ?_ _ | refine Xi ?_ | refine Xh ?_ _)); refine blk_far ?_ NB278_284.out _; (with_reducible repeat (first | refine Xg ?_ _ | refine Xi ?_ | refine Xh ?_ _)); exact BK278.out) hb); have n2_ := Za (Xl (g := gb279) (o := .cells #[.int .i64 0, .int .i64 0, .int .i64 0, .int .i64 0] 37 (0, 0)) (by (with_reducible repeat (first | refine Xg ?_ _ | refine Xi ?_ | refine Xh ?_ _)); refine blk_far ?_ NB279_284.out _; (with_reducible repeat (first | refine Xg ?_ _ | refine Xi ?_ | refine Xh ?_ _)); refine blk_far ?_ NB279_284.out _; (with_reducible repeat (first | refine Xg ?_ _ | refine Xi ?_ | refine Xh ?_ _)); refine blk_far ?_ NB279_284.out _; (with_reducible repeat (first | refine Xg ?_ _ | refine Xi ?_ | refine Xh ?_ _)); refine blk_far ?_ NB279_284.out _; (with_reducible repeat (first | refine Xg ?_ _ | refine Xi ?_ | refine Xh ?_ _)); exact BK279.out) hb); have n3_ := Za (Xl (g := gb284) (o := .cells #[.int .i64 t280, .int .i64 t281, .int .i64 t282, .int .i64 t283] 37 (0, 0)) (by (with_reducible repeat (first | refine Xg ?_ _ | refine Xi ?_ | refine Xh ?_ _)); refine blk_put (cs := #[.int .i64 t280, .int .i64 t281, .int .i64 t282, .int .i64 0]) ?_ 3 _ rfl; (with_reducible repeat (first | refine Xg ?_ _ | refine Xi ?_ | refine Xh ?_ _)); refine blk_put (cs := #[.int .i64 t280, .int .i64 t281, .int .i64 0, .int .i64 0]) ?_ 2 _ rfl; (with_reducible repeat (first | refine Xg ?_ _ | refine Xi ?_ | refine Xh ?_ _)); refine blk_put (cs := #[.int .i64 t280, .int .i64 0, .int .i64 0, .int .i64 0]) ?_ 1 _ rfl; (with_reducible repeat (first | refine Xg ?_ _ | refine Xi ?_ | refine Xh ?_ _)); refine blk_put (cs := #[.int .i64 0, .int .i64 0, .int .i64 0, .int .i64 0]) ?_ 0 _ rfl; (with_reducible repeat (first | refine Xg ?_ _ | refine Xi ?_ | refine Xh ?_ _)); exact BK284.out) hb); have n4_ := Za (below_step (hb_11 HB.out) hb); clear BK277; clear BK278; clear BK279; clear BK284; clear HB; have BK277 := n0_; have BK278 := n1_; have BK279 := n2_; have BK284 := n3_; have HB := n4_; clear n0_ n1_ n2_ n3_ n4_; (try clear hb); (try clear hb2); (try clear hk); (try clear hi); have hcz42_0 : w41.cell? ⟨gb284, 0, none⟩ = some (.int .i64 t280) := (Xd BK284.out 0).trans rfl; have hcz42_1 : w41.cell? ⟨gb284, 1, none⟩ = some (.int .i64 t281) := (Xd BK284.out 1).trans rfl; have hcz42_2 : w41.cell? ⟨gb284, 2, none⟩ = some (.int .i64 t282) := (Xd BK284.out 2).trans rfl; have hcz42_3 : w41.cell? ⟨gb284, 3, none⟩ = some (.int .i64 t283) := (Xd BK284.out 3).trans rfl; have hfz42_0 := Xq BK284.out 0; have hfz42_1 := Xq BK284.out 1; have hfz42_2 := Xq BK284.out 2; have hfz42_3 := Xq BK284.out 3; have hnb43 := NB279_277.out; have hnc43 := NB277_279.out; have hnb44 := NB279_278.out; have hnc44 := NB278_279.out; have hcz45_0 : w41.cell? ⟨gb279, 0, none⟩ = some (.int .i64 0) := (Xd BK279.out 0).trans rfl; have hcz45_1 : w41.cell? ⟨gb279, 1, none⟩ = some (.int .i64 0) := (Xd BK279.out 1).trans rfl; have hcz45_2 : w41.cell? ⟨gb279, 2, none⟩ = some (.int .i64 0) := (Xd BK279.out 2).trans rfl; have hcz45_3 : w41.cell? ⟨gb279, 3, none⟩ = some (.int .i64 0) := (Xd BK279.out 3).trans rfl; have hfz45_0 := Xq BK279.out 0; have hfz45_1 := Xq BK279.out 1; have hfz45_2 := Xq BK279.out 2; have hfz45_3 := Xq BK279.out 3))
  refine bodyPost_ret (results_cell_row rfl _ _ gb279 37 #[.int .i64 t280, .int .i64 t281, .int .i64 t282, .int .i64 t283] (0, 0) _ rfl (by (with_reducible repeat (first | refine Xg ?_ _ | refine Xi ?_ | refine Xh ?_ _)); refine blk_put (cs := #[.int .i64 t280, .int .i64 t281, .int .i64 t282, .int .i64 0]) ?_ 3 _ rfl; (with_reducible repeat (first | refine Xg ?_ _ | refine Xi ?_ | refine Xh ?_ _)); refine blk_put (cs := #[.int .i64 t280, .int .i64 t281, .int .i64 0, .int .i64 0]) ?_ 2 _ rfl; (with_reducible repeat (first | refine Xg ?_ _ | refine Xi ?_ | refine Xh ?_ _)); refine blk_put (cs := #[.int .i64 t280, .int .i64 0, .int .i64 0, .int .i64 0]) ?_ 1 _ rfl; (with_reducible repeat (first | refine Xg ?_ _ | refine Xi ?_ | refine Xh ?_ _)); refine blk_put (cs := #[.int .i64 0, .int .i64 0, .int .i64 0, .int .i64 0]) ?_ 0 _ rfl; (with_reducible repeat (first | refine Xg ?_ _ | refine Xi ?_ | refine Xh ?_ _)); exact BK279.out) Try.underlying37 rfl (by kernel_rfl)) rfl ?_
  exact ⟨by first | rfl | (simp [errW_none, errW_some] <;> rfl) | (simp [*, errW_none, errW_some] <;> rfl), by repeat (first | (with_reducible first | exact HB.out | apply below_alloc | apply pw_below_drewN | apply below_drew1 | refine below_set ?_ GE277.out | refine below_set ?_ GE278.out | refine below_set ?_ GE279.out | refine below_set ?_ GE284.out) | exact HB.out)⟩

end Go.Proofs.Ythgmjhidigoneaa.PLayerKeeps
