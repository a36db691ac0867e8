import Derived.Test.YthgmjhidigoneaaPLayerKeepsx0
import Derived.Test.YthgmjhidigoneaaPLayerKeepsx6
import Derived.Test.YthgmjhidigoneaaPLayerKeepsx8
import Derived.Test.YthgmjhidigoneaaPLayerKeepsx12
namespace Go.Proofs.Ythgmjhidigoneaa.PLayerKeeps
open Go.RowKit Go.Proofs.YthgmjhidigoneaaW.PrintWords Go.Proofs.YthgmjhidigoneaaW.PrintLast Go.Proofs.YthgmjhidigoneaaW.PrintMore
open Bool renaming true → Zt, false → Zf
open Go.Proofs.YthgmjhidigoneaaW.PrintWords.Aside0 renaming mk → Za
open List renaming setIfInBounds_toArray → Xa, set_cons_zero → Xb, set_cons_succ → Xc
open Go.Proofs.YthgmjhidigoneaaW.PrintWords renaming blk_cell → Xd, cell_far → Xe, blk_below → Xf, blk_drewN → Xg, blk_alloc → Xh, blk_drew → Xi, blk_frozen → Xj, blk_lt → Xk, below_step → Xl, below_size → Xm
attribute [local go_sem] max2_int min2_int max_two min_two max_three min_three max_four min_four   -- for this text's walks alone
set_option linter.unusedVariables false
set_option linter.unusedSimpArgs false
theorem bb_13 {p q : Prop} (h : q) (f : q → p := by intro h_; (with_reducible repeat (first | refine blk_drewN ?_ _ | refine blk_drew ?_ | refine blk_alloc ?_ _)); exact h_) : p := f h
theorem hb_13 {B : Nat} {w W W1 : World} (h : Below B w W) (f : Below B w W → Below B w W1 := by intro h_; repeat (first | (with_reducible first | exact h_ | apply below_alloc | apply pw_below_drewN | apply below_drew1 | refine below_set ?_ (Aside0.out (by assumption))) | exact h_)) : Below B w W1 := f h

/-! ### layer_Keep: function 64 -/
def layer_Keep.f (k : Nat) (a0_0 : Int) (a0_1 : Int) (a0_2 : Int) (a0_3 : Int) (a0_4 : Int) (a0_5 : Int) (a0_6 : Int) (a1_0 : Int) (a1_1 : Int) (a1_2 : Int) (a1_3 : Int) : Option (Int × Int × Int × Int × Int × Int × Int × Bool) := (layer_Lies.f k a0_0 a0_1 a0_2 a0_3 a0_4 a0_5 a0_6).bind fun bt297 => ((box_Meet.f bt297.1 bt297.2.1 bt297.2.2.1 bt297.2.2.2 a1_0 a1_1 a1_2 a1_3).bind fun bt301 => ((box_Empty.f a0_0 a0_1 a0_2 a0_3).bind fun t306 => (if t306 = Zt then (some (0, 0, 0, 0, 0, 0, 0, Zf)) else ((box_Empty.f bt301.1 bt301.2.1 bt301.2.2.1 bt301.2.2.2).bind fun t307 => (if t307 = Zt then (some (0, 0, 0, 0, 0, 0, 0, Zf)) else ((layer_part.f k a0_0 a0_1 a0_2 a0_3 a0_4 a0_5 a0_6 bt301.1 bt301.2.1 bt301.2.2.1 bt301.2.2.2).bind fun bt308 => (some (bt308.1, bt308.2.1, bt308.2.2.1, bt308.2.2.2.1, bt308.2.2.2.2.1, bt308.2.2.2.2.2.1, bt308.2.2.2.2.2.2, Zt))))))))
theorem layer_Keep.mono : ∀ a0 a1 a2 a3 a4 a5 a6 a7 a8 a9 a10 k, LeO (layer_Keep.f k a0 a1 a2 a3 a4 a5 a6 a7 a8 a9 a10) (layer_Keep.f (k + 1) a0 a1 a2 a3 a4 a5 a6 a7 a8 a9 a10) := by
 intro a0 a1 a2 a3 a4 a5 a6 a7 a8 a9 a10 k
 unfold layer_Keep.f
 repeat' first
   | (with_reducible exact layer_Lies.mono _ _ _ _ _ _ _ _)
   | (with_reducible exact layer_part.mono _ _ _ _ _ _ _ _ _ _ _ _)
   | (with_reducible exact LeO.refl _)
   | (with_reducible exact LeO.none _)
   | (with_reducible refine LeO.ite ?_ ?_)
   | (with_reducible refine LeO.bind ?_ (fun _ => ?_))
   | exact layer_Lies.mono _ _ _ _ _ _ _ _
   | exact layer_part.mono _ _ _ _ _ _ _ _ _ _ _ _
   | exact LeO.none _
   | refine LeO.ite ?_ ?_
   | refine LeO.bind ?_ (fun _ => ?_)
set_option maxHeartbeats 8000000 in
set_option maxRecDepth 100000 in
theorem layer_Keep.calls (k : Nat) (a0_0 : Int) (a0_1 : Int) (a0_2 : Int) (a0_3 : Int) (a0_4 : Int) (a0_5 : Int) (a0_6 : Int) (a1_0 : Int) (a1_1 : Int) (a1_2 : Int) (a1_3 : Int) (r1 : Int) (r2 : Int) (r3 : Int) (r4 : Int) (r5 : Int) (r6 : Int) (r7 : Int) (r8 : Bool) (w : World) (h : layer_Keep.f k a0_0 a0_1 a0_2 a0_3 a0_4 a0_5 a0_6 a1_0 a1_1 a1_2 a1_3 = some (r1, r2, r3, r4, r5, r6, r7, r8)) :
  Calls Try.prog 64 #[.agg #[.int .i64 a0_0, .int .i64 a0_1, .int .i64 a0_2, .int .i64 a0_3, .int .i64 a0_4, .int .i64 a0_5, .int .i64 a0_6], .agg #[.int .i64 a1_0, .int .i64 a1_1, .int .i64 a1_2, .int .i64 a1_3]] w fun e w' => e = .returned (.tuple #[.agg #[.int .i64 r1, .int .i64 r2, .int .i64 r3, .int .i64 r4, .int .i64 r5, .int .i64 r6, .int .i64 r7], .bool r8]) ∧ Below w.heap.size w w' := by
 have hu55 := Try.underlying55
 have hu37 := Try.underlying37
 have HB := Za (Below.refl w.heap.size w)
 have H : ((layer_Lies.f k a0_0 a0_1 a0_2 a0_3 a0_4 a0_5 a0_6).bind fun bt297 => ((box_Meet.f bt297.1 bt297.2.1 bt297.2.2.1 bt297.2.2.2 a1_0 a1_1 a1_2 a1_3).bind fun bt301 => ((box_Empty.f a0_0 a0_1 a0_2 a0_3).bind fun t306 => (if t306 = Zt then (some (0, 0, 0, 0, 0, 0, 0, Zf)) else ((box_Empty.f bt301.1 bt301.2.1 bt301.2.2.1 bt301.2.2.2).bind fun t307 => (if t307 = Zt then (some (0, 0, 0, 0, 0, 0, 0, Zf)) else ((layer_part.f k a0_0 a0_1 a0_2 a0_3 a0_4 a0_5 a0_6 bt301.1 bt301.2.1 bt301.2.2.1 bt301.2.2.2).bind fun bt308 => (some (bt308.1, bt308.2.1, bt308.2.2.1, bt308.2.2.2.1, bt308.2.2.2.2.1, bt308.2.2.2.2.2.1, bt308.2.2.2.2.2.2, Zt))))))))) = some (r1, r2, r3, r4, r5, r6, r7, r8) := h
 clear h
 replace H := Option.bind_eq_some_iff.mp H
 obtain ⟨⟨t297, t298, t299, t300⟩, A30, H⟩ := H
 replace H : ((box_Meet.f t297 t298 t299 t300 a1_0 a1_1 a1_2 a1_3).bind fun bt301 => ((box_Empty.f a0_0 a0_1 a0_2 a0_3).bind fun t306 => (if t306 = Zt then (some (0, 0, 0, 0, 0, 0, 0, Zf)) else ((box_Empty.f bt301.1 bt301.2.1 bt301.2.2.1 bt301.2.2.2).bind fun t307 => (if t307 = Zt then (some (0, 0, 0, 0, 0, 0, 0, Zf)) else ((layer_part.f k a0_0 a0_1 a0_2 a0_3 a0_4 a0_5 a0_6 bt301.1 bt301.2.1 bt301.2.2.1 bt301.2.2.2).bind fun bt308 => (some (bt308.1, bt308.2.1, bt308.2.2.1, bt308.2.2.2.1, bt308.2.2.2.2.1, bt308.2.2.2.2.2.1, bt308.2.2.2.2.2.2, Zt)))))))) = some (r1, r2, r3, r4, r5, r6, r7, r8) := H
 have A3 := Za A30
 clear A30
 replace H := Option.bind_eq_some_iff.mp H
 obtain ⟨⟨t301, t302, t303, t304⟩, A40, H⟩ := H
 replace H : ((box_Empty.f a0_0 a0_1 a0_2 a0_3).bind fun t306 => (if t306 = Zt then (some (0, 0, 0, 0, 0, 0, 0, Zf)) else ((box_Empty.f t301 t302 t303 t304).bind fun t307 => (if t307 = Zt then (some (0, 0, 0, 0, 0, 0, 0, Zf)) else ((layer_part.f k a0_0 a0_1 a0_2 a0_3 a0_4 a0_5 a0_6 t301 t302 t303 t304).bind fun bt308 => (some (bt308.1, bt308.2.1, bt308.2.2.1, bt308.2.2.2.1, bt308.2.2.2.2.1, bt308.2.2.2.2.2.1, bt308.2.2.2.2.2.2, Zt))))))) = some (r1, r2, r3, r4, r5, r6, r7, r8) := H
 have A4 := Za A40
 clear A40
 replace H := Option.bind_eq_some_iff.mp H
 obtain ⟨t306, A50, H⟩ := H
 replace H : (if t306 = Zt then (some (0, 0, 0, 0, 0, 0, 0, Zf)) else ((box_Empty.f t301 t302 t303 t304).bind fun t307 => (if t307 = Zt then (some (0, 0, 0, 0, 0, 0, 0, Zf)) else ((layer_part.f k a0_0 a0_1 a0_2 a0_3 a0_4 a0_5 a0_6 t301 t302 t303 t304).bind fun bt308 => (some (bt308.1, bt308.2.1, bt308.2.2.1, bt308.2.2.2.1, bt308.2.2.2.2.1, bt308.2.2.2.2.2.1, bt308.2.2.2.2.2.2, Zt)))))) = some (r1, r2, r3, r4, r5, r6, r7, r8) := H
 have A5 := Za A50
 clear A50
 by_cases c6 : t306 = Zt
 ·subst c6
  have H1 : (some (0, 0, 0, 0, 0, 0, 0, Zf)) = some (r1, r2, r3, r4, r5, r6, r7, r8) := by rw [if_pos rfl] at H; exact H
  clear H
  have H := H1
  clear H1
  simp only [Option.some.injEq, Prod.mk.injEq] at H
  obtain ⟨rfl, rfl, rfl, rfl, rfl, rfl, rfl, rfl⟩ := H
  go_enter Try.func64, Try.ntmps64
  try go_wp2_with (first | ((with_reducible refine gate_dst (N := 2) rfl ?_); refine box_event ?hg (N := 2) ?hd (cs := #[.int .i64 a0_0, .int .i64 a0_1, .int .i64 a0_2, .int .i64 a0_3, .int .i64 a0_4, .int .i64 a0_5, .int .i64 a0_6]) (t := 55) ?hr ?_; (case hd => rfl); (case hg => rfl); (case hr => first | (go_simp; done) | (go_simp; rfl)); intro gb294 hg w7 hbox hb; have n0_ := Za (Xl (hb_13 HB.out) hb); have n1_ := Za (hbox); have n2_ := Za ((by rw [hg]; exact (Xm (hb_13 HB.out)) : w.heap.size ≤ gb294)); have n3_ := Za ((by rw [hg]; exact (Xm (hb_13 HB.out)) : w.heap.size ≤ gb294)); clear HB; have HB := n0_; have BK294 := n1_; have GW294 := n2_; have GE294 := n3_; clear n0_ n1_ n2_ n3_; clear hb hbox hg) | ((with_reducible refine gate_dst (N := 3) rfl ?_); refine box_event ?hg (N := 3) ?hd (cs := #[.int .i64 a1_0, .int .i64 a1_1, .int .i64 a1_2, .int .i64 a1_3]) (t := 37) ?hr ?_; (case hd => rfl); (case hg => rfl); (case hr => first | (go_simp; done) | (go_simp; rfl)); intro gb295 hg w8 hbox hb; have n0_ := Za (Xf (g := gb294) (o := .cells #[.int .i64 a0_0, .int .i64 a0_1, .int .i64 a0_2, .int .i64 a0_3, .int .i64 a0_4, .int .i64 a0_5, .int .i64 a0_6] 55 (0, 0)) (bb_13 BK294.out) hb); have n1_ := Za (Xl (hb_13 HB.out) hb); have n2_ := Za (hbox); have n3_ := Za ((by rw [hg]; exact (Xm (hb_13 HB.out)) : w.heap.size ≤ gb295)); have n4_ := Za ((by rw [hg]; exact (Xm (hb_13 HB.out)) : w.heap.size ≤ gb295)); have n5_ := Za ((by rw [hg]; exact Nat.ne_of_lt (Xk (g := gb294) (o := .cells #[.int .i64 a0_0, .int .i64 a0_1, .int .i64 a0_2, .int .i64 a0_3, .int .i64 a0_4, .int .i64 a0_5, .int .i64 a0_6] 55 (0, 0)) (bb_13 BK294.out)) : gb294 ≠ gb295)); have n6_ := Za ((by rw [hg]; exact Nat.ne_of_gt (Xk (g := gb294) (o := .cells #[.int .i64 a0_0, .int .i64 a0_1, .int .i64 a0_2, .int .i64 a0_3, .int .i64 a0_4, .int .i64 a0_5, .int .i64 a0_6] 55 (0, 0)) (bb_13 BK294.out)) : gb295 ≠ gb294)); clear BK294; clear HB; have BK294 := n0_; have HB := n1_; have BK295 := n2_; have GW295 := n3_; have GE295 := n4_; have NB294_295 := n5_; have NB295_294 := n6_; clear n0_ n1_ n2_ n3_ n4_ n5_ n6_; clear hb hbox hg) | ((with_reducible refine gate_dst (N := 4) rfl ?_); refine box_event ?hg (N := 4) ?hd (cs := #[.int .i64 0, .int .i64 0, .int .i64 0, .int .i64 0, .int .i64 0, .int .i64 0, .int .i64 0]) (t := 55) ?hr ?_; (case hd => rfl); (case hg => rfl); (case hr => first | (go_simp; done) | (go_simp; rfl)); intro gb296 hg w9 hbox hb; have n0_ := Za (Xf (g := gb294) (o := .cells #[.int .i64 a0_0, .int .i64 a0_1, .int .i64 a0_2, .int .i64 a0_3, .int .i64 a0_4, .int .i64 a0_5, .int .i64 a0_6] 55 (0, 0)) (bb_13 BK294.out) hb); have n1_ := Za (Xf (g := gb295) (o := .cells #[.int .i64 a1_0, .int .i64 a1_1, .int .i64 a1_2, .int .i64 a1_3] 37 (0, 0)) (bb_13 BK295.out) hb); have n2_ := Za (Xl (hb_13 HB.out) hb); have n3_ := Za (hbox); have n4_ := Za ((by rw [hg]; exact (Xm (hb_13 HB.out)) : w.heap.size ≤ gb296)); have n5_ := Za ((by rw [hg]; exact (Xm (hb_13 HB.out)) : w.heap.size ≤ gb296)); have n6_ := Za ((by rw [hg]; exact Nat.ne_of_lt (Xk (g := gb294) (o := .cells #[.int .i64 a0_0, .int .i64 a0_1, .int .i64 a0_2, .int .i64 a0_3, .int .i64 a0_4, .int .i64 a0_5, .int .i64 a0_6] 55 (0, 0)) (bb_13 BK294.out)) : gb294 ≠ gb296)); have n7_ := Za ((by rw [hg]; exact Nat.ne_of_gt (Xk (g := gb294) (o := .cells #[.int .i64 a0_0, .int .i64 a0_1, .int .i64 a0_2, .int .i64 a0_3, .int .i64 a0_4, .int .i64 a0_5, .int .i64 a0_6] 55 (0, 0)) (bb_13 BK294.out)) : gb296 ≠ gb294)); have n8_ := Za ((by rw [hg]; exact Nat.ne_of_lt (Xk (g := gb295) (o := .cells #[.int .i64 a1_0, .int .i64 a1_1, .int .i64 a1_2, .int .i64 a1_3] 37 (0, 0)) (bb_13 BK295.out)) : gb295 ≠ gb296)); have n9_ := Za ((by rw [hg]; exact Nat.ne_of_gt (Xk (g := gb295) (o := .cells #[.int .i64 a1_0, .int .i64 a1_1, .int .i64 a1_2, .int .i64 a1_3] 37 (0, 0)) (bb_13 BK295.out)) : gb296 ≠ gb295)); clear BK294; clear BK295; clear HB; have BK294 := n0_; have BK295 := n1_; have HB := n2_; have BK296 := n3_; have GW296 := n4_; have GE296 := n5_; have NB294_296 := n6_; have NB296_294 := n7_; have NB295_296 := n8_; have NB296_295 := n9_; clear n0_ n1_ n2_ n3_ n4_ n5_ n6_ n7_ n8_ n9_; clear hb hbox hg))
  have n0_ := Za (Xi BK294.out)
  have n1_ := Za (Xi BK295.out)
  have n2_ := Za (Xi BK296.out)
  have n3_ := Za (below_drew1 HB.out)
  clear BK294
  clear BK295
  clear BK296
  clear HB
  have BK294 := n0_
  have BK295 := n1_
  have BK296 := n2_
  have HB := n3_
  clear n0_ n1_ n2_ n3_
  refine start_ (n := 6) (S := fun w' => w'.cell? ⟨gb294, 0, none⟩ = some (.int .i64 a0_0) ∧ w'.cell? ⟨gb294, 1, none⟩ = some (.int .i64 a0_1) ∧ w'.cell? ⟨gb294, 2, none⟩ = some (.int .i64 a0_2) ∧ w'.cell? ⟨gb294, 3, none⟩ = some (.int .i64 a0_3) ∧ w'.cell? ⟨gb294, 4, none⟩ = some (.int .i64 a0_4) ∧ w'.cell? ⟨gb294, 5, none⟩ = some (.int .i64 a0_5) ∧ w'.cell? ⟨gb294, 6, none⟩ = some (.int .i64 a0_6) ∧ w'.cell? ⟨gb295, 0, none⟩ = some (.int .i64 a1_0) ∧ w'.cell? ⟨gb295, 1, none⟩ = some (.int .i64 a1_1) ∧ w'.cell? ⟨gb295, 2, none⟩ = some (.int .i64 a1_2) ∧ w'.cell? ⟨gb295, 3, none⟩ = some (.int .i64 a1_3)) (ds := []) #[Zf,Zf,Zf,Zf,Zf,Zf] (by kernel_rfl) rfl rfl ⟨(Xd BK294.out 0).trans rfl, (Xd BK294.out 1).trans rfl, (Xd BK294.out 2).trans rfl, (Xd BK294.out 3).trans rfl, (Xd BK294.out 4).trans rfl, (Xd BK294.out 5).trans rfl, (Xd BK294.out 6).trans rfl, (Xd BK295.out 0).trans rfl, (Xd BK295.out 1).trans rfl, (Xd BK295.out 2).trans rfl, (Xd BK295.out 3).trans rfl⟩ (fun hHeld => ?_)
  generalize w9.drew = w10 at BK294 BK295 BK296 HB hHeld ⊢
  refine take_ (i := 0) (N := some 7) (v := ?_) (a' := ?_) #[Zt,Zf,Zf,Zf,Zf,Zf] rfl rfl (by kernel_rfl) (fun _ _ _ h => h) (Or.inl ⟨by rfl, ?_⟩) hHeld ?_ ?_
  rotate_left
  ·rintro w' ⟨s0, s1, s2, s3, s4, s5, s6, s7, s8, s9, s10⟩
   go_simp
   with_reducible rfl
  rotate_left
  ·simp only [Act.put, Xa, Xb, Xc, i64_w, i32_w]
   rfl
  refine take_ (i := 2) (N := some 9) (v := ?_) (a' := ?_) #[Zt,Zf,Zt,Zf,Zf,Zf] rfl rfl (by kernel_rfl) (fun _ _ _ h => h) (Or.inl ⟨by rfl, ?_⟩) hHeld ?_ ?_
  rotate_left
  ·rintro w' ⟨s0, s1, s2, s3, s4, s5, s6, s7, s8, s9, s10⟩
   go_simp
   with_reducible rfl
  rotate_left
  ·simp only [Act.put, Xa, Xb, Xc, i64_w, i32_w]
   rfl
  refine join_ (σ := Nat) 1 #[Zt,Zt,Zt,Zt,Zt,Zf] (fun s_ => [(8, .agg #[.int .i64 t297, .int .i64 t298, .int .i64 t299, .int .i64 t300]), (10, .agg #[.int .i64 t301, .int .i64 t302, .int .i64 t303, .int .i64 t304]), (6, .pointer (some ⟨s_, 0, none⟩))]) (fun s_ w' => (w'.cell? ⟨gb294, 0, none⟩ = some (.int .i64 a0_0) ∧ w'.cell? ⟨gb294, 1, none⟩ = some (.int .i64 a0_1) ∧ w'.cell? ⟨gb294, 2, none⟩ = some (.int .i64 a0_2) ∧ w'.cell? ⟨gb294, 3, none⟩ = some (.int .i64 a0_3) ∧ w'.cell? ⟨gb294, 4, none⟩ = some (.int .i64 a0_4) ∧ w'.cell? ⟨gb294, 5, none⟩ = some (.int .i64 a0_5) ∧ w'.cell? ⟨gb294, 6, none⟩ = some (.int .i64 a0_6) ∧ w'.cell? ⟨gb295, 0, none⟩ = some (.int .i64 a1_0) ∧ w'.cell? ⟨gb295, 1, none⟩ = some (.int .i64 a1_1) ∧ w'.cell? ⟨gb295, 2, none⟩ = some (.int .i64 a1_2) ∧ w'.cell? ⟨gb295, 3, none⟩ = some (.int .i64 a1_3)) ∧ (w'.heap[gb294]? = some (.cells #[.int .i64 a0_0, .int .i64 a0_1, .int .i64 a0_2, .int .i64 a0_3, .int .i64 a0_4, .int .i64 a0_5, .int .i64 a0_6] 55 (0, 0))) ∧ (w'.heap[gb295]? = some (.cells #[.int .i64 a1_0, .int .i64 a1_1, .int .i64 a1_2, .int .i64 a1_3] 37 (0, 0))) ∧ (w'.heap[gb296]? = some (.cells #[.int .i64 0, .int .i64 0, .int .i64 0, .int .i64 0, .int .i64 0, .int .i64 0, .int .i64 0] 55 (0, 0))) ∧ (w'.heap[s_]? = some (.cells #[.int .i64 0, .int .i64 0, .int .i64 0, .int .i64 0] 37 (0, 0))) ∧ (w.heap.size ≤ s_) ∧ (w.heap.size ≤ s_) ∧ (gb294 ≠ s_) ∧ (s_ ≠ gb294) ∧ (gb295 ≠ s_) ∧ (s_ ≠ gb295) ∧ (gb296 ≠ s_) ∧ (s_ ≠ gb296) ∧ (Below w.heap.size w w')) ?_ ?_
  rotate_left
  ·intro hCont
   refine two_ (i := 1) (j := 4) (Ni := some 8) (Nj := some 6) #[Zt,Zt,Zt,Zf,Zf,Zf] #[Zt,Zf,Zt,Zf,Zt,Zf] rfl rfl rfl rfl (by kernel_rfl) (by decide) (by decide) (fun K hK => ?_) (fun K hK => ?_)
   ·skip
    refine goes_ Try.func39 (by kernel_rfl) rfl #[.agg #[.int .i64 a0_0, .int .i64 a0_1, .int .i64 a0_2, .int .i64 a0_3, .int .i64 a0_4, .int .i64 a0_5, .int .i64 a0_6]] (by rfl) rfl rfl (by (try simp only [List.map_toArray, List.map_cons, List.map_nil]); first | done | rfl | (simp only [List.length_drop, List.length_take]; rfl)) ?_
    with_reducible refine (layer_Lies.calls k a0_0 a0_1 a0_2 a0_3 a0_4 a0_5 a0_6 t297 t298 t299 t300 _ A3.out).mono ?_
    rintro e w11 ⟨rfl, hb⟩
    refine ⟨_, rfl, ?_⟩
    have n0_ := Za (Xf (g := gb294) (o := .cells #[.int .i64 a0_0, .int .i64 a0_1, .int .i64 a0_2, .int .i64 a0_3, .int .i64 a0_4, .int .i64 a0_5, .int .i64 a0_6] 55 (0, 0)) (bb_13 BK294.out) hb)
    have n1_ := Za (Xf (g := gb295) (o := .cells #[.int .i64 a1_0, .int .i64 a1_1, .int .i64 a1_2, .int .i64 a1_3] 37 (0, 0)) (bb_13 BK295.out) hb)
    have n2_ := Za (Xf (g := gb296) (o := .cells #[.int .i64 0, .int .i64 0, .int .i64 0, .int .i64 0, .int .i64 0, .int .i64 0, .int .i64 0] 55 (0, 0)) (bb_13 BK296.out) hb)
    have n3_ := Za (Xl (hb_13 HB.out) hb)
    clear BK294
    clear BK295
    clear BK296
    clear HB
    have BK294 := n0_
    have BK295 := n1_
    have BK296 := n2_
    have HB := n3_
    clear n0_ n1_ n2_ n3_
    (try clear hb)
    (try clear hb2)
    (try clear hk)
    (try clear hi)
    refine hK.out _ _ ⟨(Xd BK294.out 0).trans rfl, (Xd BK294.out 1).trans rfl, (Xd BK294.out 2).trans rfl, (Xd BK294.out 3).trans rfl, (Xd BK294.out 4).trans rfl, (Xd BK294.out 5).trans rfl, (Xd BK294.out 6).trans rfl, (Xd BK295.out 0).trans rfl, (Xd BK295.out 1).trans rfl, (Xd BK295.out 2).trans rfl, (Xd BK295.out 3).trans rfl⟩ (fun hHeld => ?_)
    clear hK K
    refine norm_ (a' := ?_) ?_ ?_
    rotate_left
    ·show Act.put _ (some 8) _ = _
     simp only [Act.put, Xa, Xb, Xc, i64_w, i32_w]
     rfl
    refine two_ (i := 3) (j := 4) (Ni := some 10) (Nj := some 6) #[Zt,Zt,Zt,Zt,Zf,Zf] #[Zt,Zt,Zt,Zf,Zt,Zf] rfl rfl rfl rfl (by kernel_rfl) (by decide) (by decide) (fun K hK => ?_) (fun K hK => ?_)
    ·skip
     refine goes_ Try.func89 (by kernel_rfl) rfl #[.agg #[.int .i64 t297, .int .i64 t298, .int .i64 t299, .int .i64 t300], .agg #[.int .i64 a1_0, .int .i64 a1_1, .int .i64 a1_2, .int .i64 a1_3]] (by rfl) rfl rfl (by (try simp only [List.map_toArray, List.map_cons, List.map_nil]); first | done | rfl | (simp only [List.length_drop, List.length_take]; rfl)) ?_
     with_reducible refine (box_Meet.calls t297 t298 t299 t300 a1_0 a1_1 a1_2 a1_3 t301 t302 t303 t304 _ A4.out).mono ?_
     rintro e w12 ⟨rfl, hb⟩
     refine ⟨_, rfl, ?_⟩
     have n0_ := Za (Xf (g := gb294) (o := .cells #[.int .i64 a0_0, .int .i64 a0_1, .int .i64 a0_2, .int .i64 a0_3, .int .i64 a0_4, .int .i64 a0_5, .int .i64 a0_6] 55 (0, 0)) (bb_13 BK294.out) hb)
     have n1_ := Za (Xf (g := gb295) (o := .cells #[.int .i64 a1_0, .int .i64 a1_1, .int .i64 a1_2, .int .i64 a1_3] 37 (0, 0)) (bb_13 BK295.out) hb)
     have n2_ := Za (Xf (g := gb296) (o := .cells #[.int .i64 0, .int .i64 0, .int .i64 0, .int .i64 0, .int .i64 0, .int .i64 0, .int .i64 0] 55 (0, 0)) (bb_13 BK296.out) hb)
     have n3_ := Za (Xl (hb_13 HB.out) hb)
     clear BK294
     clear BK295
     clear BK296
     clear HB
     have BK294 := n0_
     have BK295 := n1_
     have BK296 := n2_
     have HB := n3_
     clear n0_ n1_ n2_ n3_
     (try clear hb)
     (try clear hb2)
     (try clear hk)
     (try clear hi)
     refine hK.out _ _ ⟨(Xd BK294.out 0).trans rfl, (Xd BK294.out 1).trans rfl, (Xd BK294.out 2).trans rfl, (Xd BK294.out 3).trans rfl, (Xd BK294.out 4).trans rfl, (Xd BK294.out 5).trans rfl, (Xd BK294.out 6).trans rfl, (Xd BK295.out 0).trans rfl, (Xd BK295.out 1).trans rfl, (Xd BK295.out 2).trans rfl, (Xd BK295.out 3).trans rfl⟩ (fun hHeld => ?_)
     clear hK K
     refine norm_ (a' := ?_) ?_ ?_
     rotate_left
     ·show Act.put _ (some 10) _ = _
      simp only [Act.put, Xa, Xb, Xc, i64_w, i32_w]
      rfl
     refine one_ (i := 4) (N := some 6) #[Zt,Zt,Zt,Zt,Zt,Zf] rfl rfl (by kernel_rfl) (by decide) (fun K hK => ?_)
     refine box_step ?hg (N := 6) ?hd (cs := #[.int .i64 0, .int .i64 0, .int .i64 0, .int .i64 0]) (t := 37) ?hr ?_; (case hd => rfl); (case hg => rfl); (case hr => first | (go_simp; done) | (go_simp; rfl))
     intro gb305 hg w13 hbox hb
     have n0_ := Za (Xf (g := gb294) (o := .cells #[.int .i64 a0_0, .int .i64 a0_1, .int .i64 a0_2, .int .i64 a0_3, .int .i64 a0_4, .int .i64 a0_5, .int .i64 a0_6] 55 (0, 0)) (bb_13 BK294.out) hb)
     have n1_ := Za (Xf (g := gb295) (o := .cells #[.int .i64 a1_0, .int .i64 a1_1, .int .i64 a1_2, .int .i64 a1_3] 37 (0, 0)) (bb_13 BK295.out) hb)
     have n2_ := Za (Xf (g := gb296) (o := .cells #[.int .i64 0, .int .i64 0, .int .i64 0, .int .i64 0, .int .i64 0, .int .i64 0, .int .i64 0] 55 (0, 0)) (bb_13 BK296.out) hb)
     have n3_ := Za (Xl (hb_13 HB.out) hb)
     have n4_ := Za (hbox)
     have n5_ := Za ((by rw [hg]; exact (Xm (hb_13 HB.out)) : w.heap.size ≤ gb305))
     have n6_ := Za ((by rw [hg]; exact (Xm (hb_13 HB.out)) : w.heap.size ≤ gb305))
     have n7_ := Za ((by rw [hg]; exact Nat.ne_of_lt (Xk (g := gb294) (o := .cells #[.int .i64 a0_0, .int .i64 a0_1, .int .i64 a0_2, .int .i64 a0_3, .int .i64 a0_4, .int .i64 a0_5, .int .i64 a0_6] 55 (0, 0)) (bb_13 BK294.out)) : gb294 ≠ gb305))
     have n8_ := Za ((by rw [hg]; exact Nat.ne_of_gt (Xk (g := gb294) (o := .cells #[.int .i64 a0_0, .int .i64 a0_1, .int .i64 a0_2, .int .i64 a0_3, .int .i64 a0_4, .int .i64 a0_5, .int .i64 a0_6] 55 (0, 0)) (bb_13 BK294.out)) : gb305 ≠ gb294))
     have n9_ := Za ((by rw [hg]; exact Nat.ne_of_lt (Xk (g := gb295) (o := .cells #[.int .i64 a1_0, .int .i64 a1_1, .int .i64 a1_2, .int .i64 a1_3] 37 (0, 0)) (bb_13 BK295.out)) : gb295 ≠ gb305))
     have n10_ := Za ((by rw [hg]; exact Nat.ne_of_gt (Xk (g := gb295) (o := .cells #[.int .i64 a1_0, .int .i64 a1_1, .int .i64 a1_2, .int .i64 a1_3] 37 (0, 0)) (bb_13 BK295.out)) : gb305 ≠ gb295))
     have n11_ := Za ((by rw [hg]; exact Nat.ne_of_lt (Xk (g := gb296) (o := .cells #[.int .i64 0, .int .i64 0, .int .i64 0, .int .i64 0, .int .i64 0, .int .i64 0, .int .i64 0] 55 (0, 0)) (bb_13 BK296.out)) : gb296 ≠ gb305))
     have n12_ := Za ((by rw [hg]; exact Nat.ne_of_gt (Xk (g := gb296) (o := .cells #[.int .i64 0, .int .i64 0, .int .i64 0, .int .i64 0, .int .i64 0, .int .i64 0, .int .i64 0] 55 (0, 0)) (bb_13 BK296.out)) : gb305 ≠ gb296))
     clear BK294
     clear BK295
     clear BK296
     clear HB
     have BK294 := n0_
     have BK295 := n1_
     have BK296 := n2_
     have HB := n3_
     have BK305 := n4_
     have GW305 := n5_
     have GE305 := n6_
     have NB294_305 := n7_
     have NB305_294 := n8_
     have NB295_305 := n9_
     have NB305_295 := n10_
     have NB296_305 := n11_
     have NB305_296 := n12_
     clear n0_ n1_ n2_ n3_ n4_ n5_ n6_ n7_ n8_ n9_ n10_ n11_ n12_
     clear hb hbox hg
     refine hK.out _ _ ⟨(Xd BK294.out 0).trans rfl, (Xd BK294.out 1).trans rfl, (Xd BK294.out 2).trans rfl, (Xd BK294.out 3).trans rfl, (Xd BK294.out 4).trans rfl, (Xd BK294.out 5).trans rfl, (Xd BK294.out 6).trans rfl, (Xd BK295.out 0).trans rfl, (Xd BK295.out 1).trans rfl, (Xd BK295.out 2).trans rfl, (Xd BK295.out 3).trans rfl⟩ (fun hHeld => ?_)
     clear hK K
     refine norm_ (a' := ?_) ?_ ?_
     rotate_left
     ·show Act.put _ (some 6) _ = _
      simp only [Act.put, Xa, Xb, Xc, i64_w, i32_w]
      rfl
     exact norm_ (by simp only [putAll, Act.put, Xa, Xb, Xc]) (hCont (gb305) _ ⟨hHeld, (bb_13 BK294.out), (bb_13 BK295.out), (bb_13 BK296.out), (bb_13 BK305.out), GW305.out, GE305.out, NB294_305.out, NB305_294.out, NB295_305.out, NB305_295.out, NB296_305.out, NB305_296.out, (hb_13 HB.out)⟩)
    ·skip
     refine box_step ?hg (N := 6) ?hd (cs := #[.int .i64 0, .int .i64 0, .int .i64 0, .int .i64 0]) (t := 37) ?hr ?_; (case hd => rfl); (case hg => rfl); (case hr => first | (go_simp; done) | (go_simp; rfl))
     intro gb305 hg w12 hbox hb
     have n0_ := Za (Xf (g := gb294) (o := .cells #[.int .i64 a0_0, .int .i64 a0_1, .int .i64 a0_2, .int .i64 a0_3, .int .i64 a0_4, .int .i64 a0_5, .int .i64 a0_6] 55 (0, 0)) (bb_13 BK294.out) hb)
     have n1_ := Za (Xf (g := gb295) (o := .cells #[.int .i64 a1_0, .int .i64 a1_1, .int .i64 a1_2, .int .i64 a1_3] 37 (0, 0)) (bb_13 BK295.out) hb)
     have n2_ := Za (Xf (g := gb296) (o := .cells #[.int .i64 0, .int .i64 0, .int .i64 0, .int .i64 0, .int .i64 0, .int .i64 0, .int .i64 0] 55 (0, 0)) (bb_13 BK296.out) hb)
     have n3_ := Za (Xl (hb_13 HB.out) hb)
     have n4_ := Za (hbox)
     have n5_ := Za ((by rw [hg]; exact (Xm (hb_13 HB.out)) : w.heap.size ≤ gb305))
     have n6_ := Za ((by rw [hg]; exact (Xm (hb_13 HB.out)) : w.heap.size ≤ gb305))
     have n7_ := Za ((by rw [hg]; exact Nat.ne_of_lt (Xk (g := gb294) (o := .cells #[.int .i64 a0_0, .int .i64 a0_1, .int .i64 a0_2, .int .i64 a0_3, .int .i64 a0_4, .int .i64 a0_5, .int .i64 a0_6] 55 (0, 0)) (bb_13 BK294.out)) : gb294 ≠ gb305))
     have n8_ := Za ((by rw [hg]; exact Nat.ne_of_gt (Xk (g := gb294) (o := .cells #[.int .i64 a0_0, .int .i64 a0_1, .int .i64 a0_2, .int .i64 a0_3, .int .i64 a0_4, .int .i64 a0_5, .int .i64 a0_6] 55 (0, 0)) (bb_13 BK294.out)) : gb305 ≠ gb294))
     have n9_ := Za ((by rw [hg]; exact Nat.ne_of_lt (Xk (g := gb295) (o := .cells #[.int .i64 a1_0, .int .i64 a1_1, .int .i64 a1_2, .int .i64 a1_3] 37 (0, 0)) (bb_13 BK295.out)) : gb295 ≠ gb305))
     have n10_ := Za ((by rw [hg]; exact Nat.ne_of_gt (Xk (g := gb295) (o := .cells #[.int .i64 a1_0, .int .i64 a1_1, .int .i64 a1_2, .int .i64 a1_3] 37 (0, 0)) (bb_13 BK295.out)) : gb305 ≠ gb295))
     have n11_ := Za ((by rw [hg]; exact Nat.ne_of_lt (Xk (g := gb296) (o := .cells #[.int .i64 0, .int .i64 0, .int .i64 0, .int .i64 0, .int .i64 0, .int .i64 0, .int .i64 0] 55 (0, 0)) (bb_13 BK296.out)) : gb296 ≠ gb305))
     have n12_ := Za ((by rw [hg]; exact Nat.ne_of_gt (Xk (g := gb296) (o := .cells #[.int .i64 0, .int .i64 0, .int .i64 0, .int .i64 0, .int .i64 0, .int .i64 0, .int .i64 0] 55 (0, 0)) (bb_13 BK296.out)) : gb305 ≠ gb296))
     clear BK294
     clear BK295
     clear BK296
     clear HB
     have BK294 := n0_
     have BK295 := n1_
     have BK296 := n2_
     have HB := n3_
     have BK305 := n4_
     have GW305 := n5_
     have GE305 := n6_
     have NB294_305 := n7_
     have NB305_294 := n8_
     have NB295_305 := n9_
     have NB305_295 := n10_
     have NB296_305 := n11_
     have NB305_296 := n12_
     clear n0_ n1_ n2_ n3_ n4_ n5_ n6_ n7_ n8_ n9_ n10_ n11_ n12_
     clear hb hbox hg
     refine hK.out _ _ ⟨(Xd BK294.out 0).trans rfl, (Xd BK294.out 1).trans rfl, (Xd BK294.out 2).trans rfl, (Xd BK294.out 3).trans rfl, (Xd BK294.out 4).trans rfl, (Xd BK294.out 5).trans rfl, (Xd BK294.out 6).trans rfl, (Xd BK295.out 0).trans rfl, (Xd BK295.out 1).trans rfl, (Xd BK295.out 2).trans rfl, (Xd BK295.out 3).trans rfl⟩ (fun hHeld => ?_)
     clear hK K
     refine norm_ (a' := ?_) ?_ ?_
     rotate_left
     ·show Act.put _ (some 6) _ = _
      simp only [Act.put, Xa, Xb, Xc, i64_w, i32_w]
      rfl
     refine one_ (i := 3) (N := some 10) #[Zt,Zt,Zt,Zt,Zt,Zf] rfl rfl (by kernel_rfl) (by decide) (fun K hK => ?_)
     refine goes_ Try.func89 (by kernel_rfl) rfl #[.agg #[.int .i64 t297, .int .i64 t298, .int .i64 t299, .int .i64 t300], .agg #[.int .i64 a1_0, .int .i64 a1_1, .int .i64 a1_2, .int .i64 a1_3]] (by rfl) rfl rfl (by (try simp only [List.map_toArray, List.map_cons, List.map_nil]); first | done | rfl | (simp only [List.length_drop, List.length_take]; rfl)) ?_
     with_reducible refine (box_Meet.calls t297 t298 t299 t300 a1_0 a1_1 a1_2 a1_3 t301 t302 t303 t304 _ A4.out).mono ?_
     rintro e w13 ⟨rfl, hb⟩
     refine ⟨_, rfl, ?_⟩
     have n0_ := Za (Xf (g := gb294) (o := .cells #[.int .i64 a0_0, .int .i64 a0_1, .int .i64 a0_2, .int .i64 a0_3, .int .i64 a0_4, .int .i64 a0_5, .int .i64 a0_6] 55 (0, 0)) (bb_13 BK294.out) hb)
     have n1_ := Za (Xf (g := gb295) (o := .cells #[.int .i64 a1_0, .int .i64 a1_1, .int .i64 a1_2, .int .i64 a1_3] 37 (0, 0)) (bb_13 BK295.out) hb)
     have n2_ := Za (Xf (g := gb296) (o := .cells #[.int .i64 0, .int .i64 0, .int .i64 0, .int .i64 0, .int .i64 0, .int .i64 0, .int .i64 0] 55 (0, 0)) (bb_13 BK296.out) hb)
     have n3_ := Za (Xf (g := gb305) (o := .cells #[.int .i64 0, .int .i64 0, .int .i64 0, .int .i64 0] 37 (0, 0)) (bb_13 BK305.out) hb)
     have n4_ := Za (Xl (hb_13 HB.out) hb)
     clear BK294
     clear BK295
     clear BK296
     clear BK305
     clear HB
     have BK294 := n0_
     have BK295 := n1_
     have BK296 := n2_
     have BK305 := n3_
     have HB := n4_
     clear n0_ n1_ n2_ n3_ n4_
     (try clear hb)
     (try clear hb2)
     (try clear hk)
     (try clear hi)
     refine hK.out _ _ ⟨(Xd BK294.out 0).trans rfl, (Xd BK294.out 1).trans rfl, (Xd BK294.out 2).trans rfl, (Xd BK294.out 3).trans rfl, (Xd BK294.out 4).trans rfl, (Xd BK294.out 5).trans rfl, (Xd BK294.out 6).trans rfl, (Xd BK295.out 0).trans rfl, (Xd BK295.out 1).trans rfl, (Xd BK295.out 2).trans rfl, (Xd BK295.out 3).trans rfl⟩ (fun hHeld => ?_)
     clear hK K
     refine norm_ (a' := ?_) ?_ ?_
     rotate_left
     ·show Act.put _ (some 10) _ = _
      simp only [Act.put, Xa, Xb, Xc, i64_w, i32_w]
      rfl
     exact norm_ (by simp only [putAll, Act.put, Xa, Xb, Xc]) (hCont (gb305) _ ⟨hHeld, (bb_13 BK294.out), (bb_13 BK295.out), (bb_13 BK296.out), (bb_13 BK305.out), GW305.out, GE305.out, NB294_305.out, NB305_294.out, NB295_305.out, NB305_295.out, NB296_305.out, NB305_296.out, (hb_13 HB.out)⟩)
   ·skip
    refine box_step ?hg (N := 6) ?hd (cs := #[.int .i64 0, .int .i64 0, .int .i64 0, .int .i64 0]) (t := 37) ?hr ?_; (case hd => rfl); (case hg => rfl); (case hr => first | (go_simp; done) | (go_simp; rfl))
    intro gb305 hg w11 hbox hb
    have n0_ := Za (Xf (g := gb294) (o := .cells #[.int .i64 a0_0, .int .i64 a0_1, .int .i64 a0_2, .int .i64 a0_3, .int .i64 a0_4, .int .i64 a0_5, .int .i64 a0_6] 55 (0, 0)) (bb_13 BK294.out) hb)
    have n1_ := Za (Xf (g := gb295) (o := .cells #[.int .i64 a1_0, .int .i64 a1_1, .int .i64 a1_2, .int .i64 a1_3] 37 (0, 0)) (bb_13 BK295.out) hb)
    have n2_ := Za (Xf (g := gb296) (o := .cells #[.int .i64 0, .int .i64 0, .int .i64 0, .int .i64 0, .int .i64 0, .int .i64 0, .int .i64 0] 55 (0, 0)) (bb_13 BK296.out) hb)
    have n3_ := Za (Xl (hb_13 HB.out) hb)
    have n4_ := Za (hbox)
    have n5_ := Za ((by rw [hg]; exact (Xm (hb_13 HB.out)) : w.heap.size ≤ gb305))
    have n6_ := Za ((by rw [hg]; exact (Xm (hb_13 HB.out)) : w.heap.size ≤ gb305))
    have n7_ := Za ((by rw [hg]; exact Nat.ne_of_lt (Xk (g := gb294) (o := .cells #[.int .i64 a0_0, .int .i64 a0_1, .int .i64 a0_2, .int .i64 a0_3, .int .i64 a0_4, .int .i64 a0_5, .int .i64 a0_6] 55 (0, 0)) (bb_13 BK294.out)) : gb294 ≠ gb305))
    have n8_ := Za ((by rw [hg]; exact Nat.ne_of_gt (Xk (g := gb294) (o := .cells #[.int .i64 a0_0, .int .i64 a0_1, .int .i64 a0_2, .int .i64 a0_3, .int .i64 a0_4, .int .i64 a0_5, .int .i64 a0_6] 55 (0, 0)) (bb_13 BK294.out)) : gb305 ≠ gb294))
    have n9_ := Za ((by rw [hg]; exact Nat.ne_of_lt (Xk (g := gb295) (o := .cells #[.int .i64 a1_0, .int .i64 a1_1, .int .i64 a1_2, .int .i64 a1_3] 37 (0, 0)) (bb_13 BK295.out)) : gb295 ≠ gb305))
    have n10_ := Za ((by rw [hg]; exact Nat.ne_of_gt (Xk (g := gb295) (o := .cells #[.int .i64 a1_0, .int .i64 a1_1, .int .i64 a1_2, .int .i64 a1_3] 37 (0, 0)) (bb_13 BK295.out)) : gb305 ≠ gb295))
    have n11_ := Za ((by rw [hg]; exact Nat.ne_of_lt (Xk (g := gb296) (o := .cells #[.int .i64 0, .int .i64 0, .int .i64 0, .int .i64 0, .int .i64 0, .int .i64 0, .int .i64 0] 55 (0, 0)) (bb_13 BK296.out)) : gb296 ≠ gb305))
    have n12_ := Za ((by rw [hg]; exact Nat.ne_of_gt (Xk (g := gb296) (o := .cells #[.int .i64 0, .int .i64 0, .int .i64 0, .int .i64 0, .int .i64 0, .int .i64 0, .int .i64 0] 55 (0, 0)) (bb_13 BK296.out)) : gb305 ≠ gb296))
    clear BK294
    clear BK295
    clear BK296
    clear HB
    have BK294 := n0_
    have BK295 := n1_
    have BK296 := n2_
    have HB := n3_
    have BK305 := n4_
    have GW305 := n5_
    have GE305 := n6_
    have NB294_305 := n7_
    have NB305_294 := n8_
    have NB295_305 := n9_
    have NB305_295 := n10_
    have NB296_305 := n11_
    have NB305_296 := n12_
    clear n0_ n1_ n2_ n3_ n4_ n5_ n6_ n7_ n8_ n9_ n10_ n11_ n12_
    clear hb hbox hg
    refine hK.out _ _ ⟨(Xd BK294.out 0).trans rfl, (Xd BK294.out 1).trans rfl, (Xd BK294.out 2).trans rfl, (Xd BK294.out 3).trans rfl, (Xd BK294.out 4).trans rfl, (Xd BK294.out 5).trans rfl, (Xd BK294.out 6).trans rfl, (Xd BK295.out 0).trans rfl, (Xd BK295.out 1).trans rfl, (Xd BK295.out 2).trans rfl, (Xd BK295.out 3).trans rfl⟩ (fun hHeld => ?_)
    clear hK K
    refine norm_ (a' := ?_) ?_ ?_
    rotate_left
    ·show Act.put _ (some 6) _ = _
     simp only [Act.put, Xa, Xb, Xc, i64_w, i32_w]
     rfl
    refine one_ (i := 1) (N := some 8) #[Zt,Zt,Zt,Zf,Zt,Zf] rfl rfl (by kernel_rfl) (by decide) (fun K hK => ?_)
    refine goes_ Try.func39 (by kernel_rfl) rfl #[.agg #[.int .i64 a0_0, .int .i64 a0_1, .int .i64 a0_2, .int .i64 a0_3, .int .i64 a0_4, .int .i64 a0_5, .int .i64 a0_6]] (by rfl) rfl rfl (by (try simp only [List.map_toArray, List.map_cons, List.map_nil]); first | done | rfl | (simp only [List.length_drop, List.length_take]; rfl)) ?_
    with_reducible refine (layer_Lies.calls k a0_0 a0_1 a0_2 a0_3 a0_4 a0_5 a0_6 t297 t298 t299 t300 _ A3.out).mono ?_
    rintro e w12 ⟨rfl, hb⟩
    refine ⟨_, rfl, ?_⟩
    have n0_ := Za (Xf (g := gb294) (o := .cells #[.int .i64 a0_0, .int .i64 a0_1, .int .i64 a0_2, .int .i64 a0_3, .int .i64 a0_4, .int .i64 a0_5, .int .i64 a0_6] 55 (0, 0)) (bb_13 BK294.out) hb)
    have n1_ := Za (Xf (g := gb295) (o := .cells #[.int .i64 a1_0, .int .i64 a1_1, .int .i64 a1_2, .int .i64 a1_3] 37 (0, 0)) (bb_13 BK295.out) hb)
    have n2_ := Za (Xf (g := gb296) (o := .cells #[.int .i64 0, .int .i64 0, .int .i64 0, .int .i64 0, .int .i64 0, .int .i64 0, .int .i64 0] 55 (0, 0)) (bb_13 BK296.out) hb)
    have n3_ := Za (Xf (g := gb305) (o := .cells #[.int .i64 0, .int .i64 0, .int .i64 0, .int .i64 0] 37 (0, 0)) (bb_13 BK305.out) hb)
    have n4_ := Za (Xl (hb_13 HB.out) hb)
    clear BK294
    clear BK295
    clear BK296
    clear BK305
    clear HB
    have BK294 := n0_
    have BK295 := n1_
    have BK296 := n2_
    have BK305 := n3_
    have HB := n4_
    clear n0_ n1_ n2_ n3_ n4_
    (try clear hb)
    (try clear hb2)
    (try clear hk)
    (try clear hi)
    refine hK.out _ _ ⟨(Xd BK294.out 0).trans rfl, (Xd BK294.out 1).trans rfl, (Xd BK294.out 2).trans rfl, (Xd BK294.out 3).trans rfl, (Xd BK294.out 4).trans rfl, (Xd BK294.out 5).trans rfl, (Xd BK294.out 6).trans rfl, (Xd BK295.out 0).trans rfl, (Xd BK295.out 1).trans rfl, (Xd BK295.out 2).trans rfl, (Xd BK295.out 3).trans rfl⟩ (fun hHeld => ?_)
    clear hK K
    refine norm_ (a' := ?_) ?_ ?_
    rotate_left
    ·show Act.put _ (some 8) _ = _
     simp only [Act.put, Xa, Xb, Xc, i64_w, i32_w]
     rfl
    refine one_ (i := 3) (N := some 10) #[Zt,Zt,Zt,Zt,Zt,Zf] rfl rfl (by kernel_rfl) (by decide) (fun K hK => ?_)
    refine goes_ Try.func89 (by kernel_rfl) rfl #[.agg #[.int .i64 t297, .int .i64 t298, .int .i64 t299, .int .i64 t300], .agg #[.int .i64 a1_0, .int .i64 a1_1, .int .i64 a1_2, .int .i64 a1_3]] (by rfl) rfl rfl (by (try simp only [List.map_toArray, List.map_cons, List.map_nil]); first | done | rfl | (simp only [List.length_drop, List.length_take]; rfl)) ?_
    with_reducible refine (box_Meet.calls t297 t298 t299 t300 a1_0 a1_1 a1_2 a1_3 t301 t302 t303 t304 _ A4.out).mono ?_
    rintro e w13 ⟨rfl, hb⟩
    refine ⟨_, rfl, ?_⟩
    have n0_ := Za (Xf (g := gb294) (o := .cells #[.int .i64 a0_0, .int .i64 a0_1, .int .i64 a0_2, .int .i64 a0_3, .int .i64 a0_4, .int .i64 a0_5, .int .i64 a0_6] 55 (0, 0)) (bb_13 BK294.out) hb)
    have n1_ := Za (Xf (g := gb295) (o := .cells #[.int .i64 a1_0, .int .i64 a1_1, .int .i64 a1_2, .int .i64 a1_3] 37 (0, 0)) (bb_13 BK295.out) hb)
    have n2_ := Za (Xf (g := gb296) (o := .cells #[.int .i64 0, .int .i64 0, .int .i64 0, .int .i64 0, .int .i64 0, .int .i64 0, .int .i64 0] 55 (0, 0)) (bb_13 BK296.out) hb)
    have n3_ := Za (Xf (g := gb305) (o := .cells #[.int .i64 0, .int .i64 0, .int .i64 0, .int .i64 0] 37 (0, 0)) (bb_13 BK305.out) hb)
    have n4_ := Za (Xl (hb_13 HB.out) hb)
    clear BK294
    clear BK295
    clear BK296
    clear BK305
    clear HB
    have BK294 := n0_
    have BK295 := n1_
    have BK296 := n2_
    have BK305 := n3_
    have HB := n4_
    clear n0_ n1_ n2_ n3_ n4_
    (try clear hb)
    (try clear hb2)
    (try clear hk)
    (try clear hi)
    refine hK.out _ _ ⟨(Xd BK294.out 0).trans rfl, (Xd BK294.out 1).trans rfl, (Xd BK294.out 2).trans rfl, (Xd BK294.out 3).trans rfl, (Xd BK294.out 4).trans rfl, (Xd BK294.out 5).trans rfl, (Xd BK294.out 6).trans rfl, (Xd BK295.out 0).trans rfl, (Xd BK295.out 1).trans rfl, (Xd BK295.out 2).trans rfl, (Xd BK295.out 3).trans rfl⟩ (fun hHeld => ?_)
    clear hK K
    refine norm_ (a' := ?_) ?_ ?_
    rotate_left
    ·show Act.put _ (some 10) _ = _
     simp only [Act.put, Xa, Xb, Xc, i64_w, i32_w]
     rfl
    exact norm_ (by simp only [putAll, Act.put, Xa, Xb, Xc]) (hCont (gb305) _ ⟨hHeld, (bb_13 BK294.out), (bb_13 BK295.out), (bb_13 BK296.out), (bb_13 BK305.out), GW305.out, GE305.out, NB294_305.out, NB305_294.out, NB295_305.out, NB305_295.out, NB296_305.out, NB305_296.out, (hb_13 HB.out)⟩)
  rintro gb305 w14 ⟨hS_, h0_, h1_, h2_, h3_, h4_, h5_, h6_, h7_, h8_, h9_, h10_, h11_, h12_⟩
  have n0_ : Aside0 (w14.heap[gb294]? = some (.cells #[.int .i64 a0_0, .int .i64 a0_1, .int .i64 a0_2, .int .i64 a0_3, .int .i64 a0_4, .int .i64 a0_5, .int .i64 a0_6] 55 (0, 0))) := ⟨h0_⟩
  have n1_ : Aside0 (w14.heap[gb295]? = some (.cells #[.int .i64 a1_0, .int .i64 a1_1, .int .i64 a1_2, .int .i64 a1_3] 37 (0, 0))) := ⟨h1_⟩
  have n2_ : Aside0 (w14.heap[gb296]? = some (.cells #[.int .i64 0, .int .i64 0, .int .i64 0, .int .i64 0, .int .i64 0, .int .i64 0, .int .i64 0] 55 (0, 0))) := ⟨h2_⟩
  have n3_ : Aside0 (w14.heap[gb305]? = some (.cells #[.int .i64 0, .int .i64 0, .int .i64 0, .int .i64 0] 37 (0, 0))) := ⟨h3_⟩
  have n4_ : Aside0 (w.heap.size ≤ gb305) := ⟨h4_⟩
  have n5_ : Aside0 (w.heap.size ≤ gb305) := ⟨h5_⟩
  have n6_ : Aside0 (gb294 ≠ gb305) := ⟨h6_⟩
  have n7_ : Aside0 (gb305 ≠ gb294) := ⟨h7_⟩
  have n8_ : Aside0 (gb295 ≠ gb305) := ⟨h8_⟩
  have n9_ : Aside0 (gb305 ≠ gb295) := ⟨h9_⟩
  have n10_ : Aside0 (gb296 ≠ gb305) := ⟨h10_⟩
  have n11_ : Aside0 (gb305 ≠ gb296) := ⟨h11_⟩
  have n12_ : Aside0 (Below w.heap.size w w14) := ⟨h12_⟩
  clear BK294
  clear BK295
  clear BK296
  clear HB
  clear h0_ h1_ h2_ h3_ h4_ h5_ h6_ h7_ h8_ h9_ h10_ h11_ h12_
  have BK294 := n0_
  have BK295 := n1_
  have BK296 := n2_
  have BK305 := n3_
  have GW305 := n4_
  have GE305 := n5_
  have NB294_305 := n6_
  have NB305_294 := n7_
  have NB295_305 := n8_
  have NB305_295 := n9_
  have NB296_305 := n10_
  have NB305_296 := n11_
  have HB := n12_
  clear n0_ n1_ n2_ n3_ n4_ n5_ n6_ n7_ n8_ n9_ n10_ n11_ n12_
  have hHeld : w14.cell? ⟨gb294, 0, none⟩ = some (.int .i64 a0_0) ∧ w14.cell? ⟨gb294, 1, none⟩ = some (.int .i64 a0_1) ∧ w14.cell? ⟨gb294, 2, none⟩ = some (.int .i64 a0_2) ∧ w14.cell? ⟨gb294, 3, none⟩ = some (.int .i64 a0_3) ∧ w14.cell? ⟨gb294, 4, none⟩ = some (.int .i64 a0_4) ∧ w14.cell? ⟨gb294, 5, none⟩ = some (.int .i64 a0_5) ∧ w14.cell? ⟨gb294, 6, none⟩ = some (.int .i64 a0_6) ∧ w14.cell? ⟨gb295, 0, none⟩ = some (.int .i64 a1_0) ∧ w14.cell? ⟨gb295, 1, none⟩ = some (.int .i64 a1_1) ∧ w14.cell? ⟨gb295, 2, none⟩ = some (.int .i64 a1_2) ∧ w14.cell? ⟨gb295, 3, none⟩ = some (.int .i64 a1_3) := hS_
  refine norm_ (a' := ?_) ?_ ?_
  rotate_left
  ·simp only [putAll, Act.put, Xa, Xb, Xc]
   rfl
  refine one_ (i := 5) (N := none) #[Zt,Zt,Zt,Zt,Zt,Zt] rfl rfl (by kernel_rfl) (by decide) (fun K hK => ?_)
  have hs15 : w14.cell? ⟨gb305, 0, none⟩ = some (.int .i64 0) := (Xd BK305.out 0).trans rfl
  have hfs15 := Xj BK305.out 0
  have hns15_0 := NB294_305.out
  have hns15_1 := NB295_305.out
  have hns15_2 := NB296_305.out
  have hms15_0 := NB305_294.out
  have hms15_1 := NB305_295.out
  have hms15_2 := NB305_296.out
  have hs16 : w14.cell? ⟨gb305, 1, none⟩ = some (.int .i64 0) := (Xd BK305.out 1).trans rfl
  have hfs16 := Xj BK305.out 1
  have hns16_0 := NB294_305.out
  have hns16_1 := NB295_305.out
  have hns16_2 := NB296_305.out
  have hms16_0 := NB305_294.out
  have hms16_1 := NB305_295.out
  have hms16_2 := NB305_296.out
  have hs17 : w14.cell? ⟨gb305, 2, none⟩ = some (.int .i64 0) := (Xd BK305.out 2).trans rfl
  have hfs17 := Xj BK305.out 2
  have hns17_0 := NB294_305.out
  have hns17_1 := NB295_305.out
  have hns17_2 := NB296_305.out
  have hms17_0 := NB305_294.out
  have hms17_1 := NB305_295.out
  have hms17_2 := NB305_296.out
  have hs18 : w14.cell? ⟨gb305, 3, none⟩ = some (.int .i64 0) := (Xd BK305.out 3).trans rfl
  have hfs18 := Xj BK305.out 3
  have hns18_0 := NB294_305.out
  have hns18_1 := NB295_305.out
  have hns18_2 := NB296_305.out
  have hms18_0 := NB305_294.out
  have hms18_1 := NB305_295.out
  have hms18_2 := NB305_296.out
  refine skip_ (w1 := ?_) (by rfl) rfl ?_ ?_
  rotate_left
  ·go_simp
   rfl
  refine hK.out _ _ ⟨((Xe (p := ⟨gb305, _, none⟩) NB294_305.out _).trans (((Xe (p := ⟨gb305, _, none⟩) NB294_305.out _).trans (((Xe (p := ⟨gb305, _, none⟩) NB294_305.out _).trans (((Xe (p := ⟨gb305, _, none⟩) NB294_305.out _).trans (hHeld.1)))))))), ((Xe (p := ⟨gb305, _, none⟩) NB294_305.out _).trans (((Xe (p := ⟨gb305, _, none⟩) NB294_305.out _).trans (((Xe (p := ⟨gb305, _, none⟩) NB294_305.out _).trans (((Xe (p := ⟨gb305, _, none⟩) NB294_305.out _).trans (hHeld.2.1)))))))), ((Xe (p := ⟨gb305, _, none⟩) NB294_305.out _).trans (((Xe (p := ⟨gb305, _, none⟩) NB294_305.out _).trans (((Xe (p := ⟨gb305, _, none⟩) NB294_305.out _).trans (((Xe (p := ⟨gb305, _, none⟩) NB294_305.out _).trans (hHeld.2.2.1)))))))), ((Xe (p := ⟨gb305, _, none⟩) NB294_305.out _).trans (((Xe (p := ⟨gb305, _, none⟩) NB294_305.out _).trans (((Xe (p := ⟨gb305, _, none⟩) NB294_305.out _).trans (((Xe (p := ⟨gb305, _, none⟩) NB294_305.out _).trans (hHeld.2.2.2.1)))))))), ((Xe (p := ⟨gb305, _, none⟩) NB294_305.out _).trans (((Xe (p := ⟨gb305, _, none⟩) NB294_305.out _).trans (((Xe (p := ⟨gb305, _, none⟩) NB294_305.out _).trans (((Xe (p := ⟨gb305, _, none⟩) NB294_305.out _).trans (hHeld.2.2.2.2.1)))))))), ((Xe (p := ⟨gb305, _, none⟩) NB294_305.out _).trans (((Xe (p := ⟨gb305, _, none⟩) NB294_305.out _).trans (((Xe (p := ⟨gb305, _, none⟩) NB294_305.out _).trans (((Xe (p := ⟨gb305, _, none⟩) NB294_305.out _).trans (hHeld.2.2.2.2.2.1)))))))), ((Xe (p := ⟨gb305, _, none⟩) NB294_305.out _).trans (((Xe (p := ⟨gb305, _, none⟩) NB294_305.out _).trans (((Xe (p := ⟨gb305, _, none⟩) NB294_305.out _).trans (((Xe (p := ⟨gb305, _, none⟩) NB294_305.out _).trans (hHeld.2.2.2.2.2.2.1)))))))), ((Xe (p := ⟨gb305, _, none⟩) NB295_305.out _).trans (((Xe (p := ⟨gb305, _, none⟩) NB295_305.out _).trans (((Xe (p := ⟨gb305, _, none⟩) NB295_305.out _).trans (((Xe (p := ⟨gb305, _, none⟩) NB295_305.out _).trans (hHeld.2.2.2.2.2.2.2.1)))))))), ((Xe (p := ⟨gb305, _, none⟩) NB295_305.out _).trans (((Xe (p := ⟨gb305, _, none⟩) NB295_305.out _).trans (((Xe (p := ⟨gb305, _, none⟩) NB295_305.out _).trans (((Xe (p := ⟨gb305, _, none⟩) NB295_305.out _).trans (hHeld.2.2.2.2.2.2.2.2.1)))))))), ((Xe (p := ⟨gb305, _, none⟩) NB295_305.out _).trans (((Xe (p := ⟨gb305, _, none⟩) NB295_305.out _).trans (((Xe (p := ⟨gb305, _, none⟩) NB295_305.out _).trans (((Xe (p := ⟨gb305, _, none⟩) NB295_305.out _).trans (hHeld.2.2.2.2.2.2.2.2.2.1)))))))), ((Xe (p := ⟨gb305, _, none⟩) NB295_305.out _).trans (((Xe (p := ⟨gb305, _, none⟩) NB295_305.out _).trans (((Xe (p := ⟨gb305, _, none⟩) NB295_305.out _).trans (((Xe (p := ⟨gb305, _, none⟩) NB295_305.out _).trans (hHeld.2.2.2.2.2.2.2.2.2.2))))))))⟩ (fun hHeld => ?_)
  clear hK K
  refine done_ (by kernel_rfl) ?_
  have hnb19 := NB294_295.out
  have hnc19 := NB295_294.out
  have hnb20 := NB294_296.out
  have hnc20 := NB296_294.out
  have hnb21 := NB294_305.out
  have hnc21 := NB305_294.out
  have hcz22_0 : w14.cell? ⟨gb294, 0, none⟩ = some (.int .i64 a0_0) := (Xd BK294.out 0).trans rfl
  have hcz22_1 : w14.cell? ⟨gb294, 1, none⟩ = some (.int .i64 a0_1) := (Xd BK294.out 1).trans rfl
  have hcz22_2 : w14.cell? ⟨gb294, 2, none⟩ = some (.int .i64 a0_2) := (Xd BK294.out 2).trans rfl
  have hcz22_3 : w14.cell? ⟨gb294, 3, none⟩ = some (.int .i64 a0_3) := (Xd BK294.out 3).trans rfl
  have hcz22_4 : w14.cell? ⟨gb294, 4, none⟩ = some (.int .i64 a0_4) := (Xd BK294.out 4).trans rfl
  have hcz22_5 : w14.cell? ⟨gb294, 5, none⟩ = some (.int .i64 a0_5) := (Xd BK294.out 5).trans rfl
  have hcz22_6 : w14.cell? ⟨gb294, 6, none⟩ = some (.int .i64 a0_6) := (Xd BK294.out 6).trans rfl
  have hfz22_0 := Xj BK294.out 0
  have hfz22_1 := Xj BK294.out 1
  have hfz22_2 := Xj BK294.out 2
  have hfz22_3 := Xj BK294.out 3
  have hfz22_4 := Xj BK294.out 4
  have hfz22_5 := Xj BK294.out 5
  have hfz22_6 := Xj BK294.out 6
  try go_wp2_with (first | ((with_reducible refine gate_callee (f := 86) rfl ?_); refine goesL_ (some 13) rfl rfl Try.func86 (by kernel_rfl) rfl #[.agg #[.int .i64 a0_0, .int .i64 a0_1, .int .i64 a0_2, .int .i64 a0_3]] rfl (by (try simp only [List.map_toArray, List.map_cons, List.map_nil]); first | done | rfl | (simp only [List.length_drop, List.length_take]; rfl)) ?_; (with_reducible refine (box_Empty.calls a0_0 a0_1 a0_2 a0_3 Zt _ A5.out).mono ?_); rintro e w23 ⟨rfl, hb⟩; refine ⟨_, rfl, ?_⟩; have n0_ := Za (Xf (g := gb294) (o := .cells #[.int .i64 a0_0, .int .i64 a0_1, .int .i64 a0_2, .int .i64 a0_3, .int .i64 a0_4, .int .i64 a0_5, .int .i64 a0_6] 55 (0, 0)) (by (with_reducible repeat (first | refine Xg ?_ _ | refine Xi ?_ | refine Xh ?_ _)); refine blk_far ?_ NB294_305.out _; (with_reducible repeat (first | refine Xg ?_ _ | refine Xi ?_ | refine Xh ?_ _)); refine blk_far ?_ NB294_305.out _; (with_reducible repeat (first | refine Xg ?_ _ | refine Xi ?_ | refine Xh ?_ _)); refine blk_far ?_ NB294_305.out _; (with_reducible repeat (first | refine Xg ?_ _ | refine Xi ?_ | refine Xh ?_ _)); refine blk_far ?_ NB294_305.out _; (with_reducible repeat (first | refine Xg ?_ _ | refine Xi ?_ | refine Xh ?_ _)); exact BK294.out) hb); have n1_ := Za (Xf (g := gb295) (o := .cells #[.int .i64 a1_0, .int .i64 a1_1, .int .i64 a1_2, .int .i64 a1_3] 37 (0, 0)) (by (with_reducible repeat (first | refine Xg ?_ _ | refine Xi ?_ | refine Xh ?_ _)); refine blk_far ?_ NB295_305.out _; (with_reducible repeat (first | refine Xg ?_ _ | refine Xi ?_ | refine Xh ?_ _)); refine blk_far ?_ NB295_305.out _; (with_reducible repeat (first | refine Xg ?_ _ | refine Xi ?_ | refine Xh ?_ _)); refine blk_far ?_ NB295_305.out _; (with_reducible repeat (first | refine Xg ?_ _ | refine Xi ?_ | refine Xh ?_ _)); refine blk_far ?_ NB295_305.out _; (with_reducible repeat (first | refine Xg ?_ _ | refine Xi ?_ | refine Xh ?_ _)); exact BK295.out) hb); have n2_ := Za (Xf (g := gb296) (o := .cells #[.int .i64 0, .int .i64 0, .int .i64 0, .int .i64 0, .int .i64 0, .int .i64 0, .int .i64 0] 55 (0, 0)) (by (with_reducible repeat (first | refine Xg ?_ _ | refine Xi ?_ | refine Xh ?_ _)); refine blk_far ?_ NB296_305.out _; (with_reducible repeat (first | refine Xg ?_ _ | refine Xi ?_ | refine Xh ?_ _)); refine blk_far ?_ NB296_305.out _; (with_reducible repeat (first | refine Xg ?_ _ | refine Xi ?_ | refine Xh ?_ _)); refine blk_far ?_ NB296_305.out _; (with_reducible repeat (first | refine Xg ?_ _ | refine Xi ?_ | refine Xh ?_ _)); refine blk_far ?_ NB296_305.out _; (with_reducible repeat (first | refine Xg ?_ _ | refine Xi ?_ | refine Xh ?_ _)); exact BK296.out) hb); have n3_ := Za (Xf (g := gb305) (o := .cells #[.int .i64 t301, .int .i64 t302, .int .i64 t303, .int .i64 t304] 37 (0, 0)) (by (with_reducible repeat (first | refine Xg ?_ _ | refine Xi ?_ | refine Xh ?_ _)); refine blk_put (cs := #[.int .i64 t301, .int .i64 t302, .int .i64 t303, .int .i64 0]) ?_ 3 _ rfl; (with_reducible repeat (first | refine Xg ?_ _ | refine Xi ?_ | refine Xh ?_ _)); refine blk_put (cs := #[.int .i64 t301, .int .i64 t302, .int .i64 0, .int .i64 0]) ?_ 2 _ rfl; (with_reducible repeat (first | refine Xg ?_ _ | refine Xi ?_ | refine Xh ?_ _)); refine blk_put (cs := #[.int .i64 t301, .int .i64 0, .int .i64 0, .int .i64 0]) ?_ 1 _ rfl; (with_reducible repeat (first | refine Xg ?_ _ | refine Xi ?_ | refine Xh ?_ _)); refine blk_put (cs := #[.int .i64 0, .int .i64 0, .int .i64 0, .int .i64 0]) ?_ 0 _ rfl; (with_reducible repeat (first | refine Xg ?_ _ | refine Xi ?_ | refine Xh ?_ _)); exact BK305.out) hb); have n4_ := Za (Xl (hb_13 HB.out) hb); clear BK294; clear BK295; clear BK296; clear BK305; clear HB; have BK294 := n0_; have BK295 := n1_; have BK296 := n2_; have BK305 := n3_; have HB := n4_; clear n0_ n1_ n2_ n3_ n4_; (try clear hb); (try clear hb2); (try clear hk); (try clear hi); have hnb24 := NB296_295.out; have hnc24 := NB295_296.out; have hnb25 := NB296_305.out; have hnc25 := NB305_296.out; have hcz26_0 : w23.cell? ⟨gb296, 0, none⟩ = some (.int .i64 0) := (Xd BK296.out 0).trans rfl; have hcz26_1 : w23.cell? ⟨gb296, 1, none⟩ = some (.int .i64 0) := (Xd BK296.out 1).trans rfl; have hcz26_2 : w23.cell? ⟨gb296, 2, none⟩ = some (.int .i64 0) := (Xd BK296.out 2).trans rfl; have hcz26_3 : w23.cell? ⟨gb296, 3, none⟩ = some (.int .i64 0) := (Xd BK296.out 3).trans rfl; have hcz26_4 : w23.cell? ⟨gb296, 4, none⟩ = some (.int .i64 0) := (Xd BK296.out 4).trans rfl; have hcz26_5 : w23.cell? ⟨gb296, 5, none⟩ = some (.int .i64 0) := (Xd BK296.out 5).trans rfl; have hcz26_6 : w23.cell? ⟨gb296, 6, none⟩ = some (.int .i64 0) := (Xd BK296.out 6).trans rfl; have hfz26_0 := Xj BK296.out 0; have hfz26_1 := Xj BK296.out 1; have hfz26_2 := Xj BK296.out 2; have hfz26_3 := Xj BK296.out 3; have hfz26_4 := Xj BK296.out 4; have hfz26_5 := Xj BK296.out 5; have hfz26_6 := Xj BK296.out 6))
  refine bodyPost_ret (results_ct rfl _ _ gb296 55 #[.int .i64 0, .int .i64 0, .int .i64 0, .int .i64 0, .int .i64 0, .int .i64 0, .int .i64 0] (0, 0) _ rfl (by (with_reducible repeat (first | refine Xg ?_ _ | refine Xi ?_ | refine Xh ?_ _)); refine blk_put (cs := #[.int .i64 0, .int .i64 0, .int .i64 0, .int .i64 0, .int .i64 0, .int .i64 0, .int .i64 0]) ?_ 6 _ rfl; (with_reducible repeat (first | refine Xg ?_ _ | refine Xi ?_ | refine Xh ?_ _)); refine blk_put (cs := #[.int .i64 0, .int .i64 0, .int .i64 0, .int .i64 0, .int .i64 0, .int .i64 0, .int .i64 0]) ?_ 5 _ rfl; (with_reducible repeat (first | refine Xg ?_ _ | refine Xi ?_ | refine Xh ?_ _)); refine blk_put (cs := #[.int .i64 0, .int .i64 0, .int .i64 0, .int .i64 0, .int .i64 0, .int .i64 0, .int .i64 0]) ?_ 4 _ rfl; (with_reducible repeat (first | refine Xg ?_ _ | refine Xi ?_ | refine Xh ?_ _)); refine blk_put (cs := #[.int .i64 0, .int .i64 0, .int .i64 0, .int .i64 0, .int .i64 0, .int .i64 0, .int .i64 0]) ?_ 3 _ rfl; (with_reducible repeat (first | refine Xg ?_ _ | refine Xi ?_ | refine Xh ?_ _)); refine blk_put (cs := #[.int .i64 0, .int .i64 0, .int .i64 0, .int .i64 0, .int .i64 0, .int .i64 0, .int .i64 0]) ?_ 2 _ rfl; (with_reducible repeat (first | refine Xg ?_ _ | refine Xi ?_ | refine Xh ?_ _)); refine blk_put (cs := #[.int .i64 0, .int .i64 0, .int .i64 0, .int .i64 0, .int .i64 0, .int .i64 0, .int .i64 0]) ?_ 1 _ rfl; (with_reducible repeat (first | refine Xg ?_ _ | refine Xi ?_ | refine Xh ?_ _)); refine blk_put (cs := #[.int .i64 0, .int .i64 0, .int .i64 0, .int .i64 0, .int .i64 0, .int .i64 0, .int .i64 0]) ?_ 0 _ rfl; (with_reducible repeat (first | refine Xg ?_ _ | refine Xi ?_ | refine Xh ?_ _)); exact BK296.out) Try.underlying55 rfl (by kernel_rfl)) rfl ?_
  exact ⟨by first | rfl | (simp [errW_none, errW_some] <;> rfl) | (simp [*, errW_none, errW_some] <;> rfl), by repeat (first | (with_reducible first | exact HB.out | apply below_alloc | apply pw_below_drewN | apply below_drew1 | refine below_set ?_ GE294.out | refine below_set ?_ GE295.out | refine below_set ?_ GE296.out | refine below_set ?_ GE305.out) | exact HB.out)⟩
 ·replace c6 := Bool.eq_false_iff.mpr c6
  subst c6
  have H1 : ((box_Empty.f t301 t302 t303 t304).bind fun t307 => (if t307 = Zt then (some (0, 0, 0, 0, 0, 0, 0, Zf)) else ((layer_part.f k a0_0 a0_1 a0_2 a0_3 a0_4 a0_5 a0_6 t301 t302 t303 t304).bind fun bt308 => (some (bt308.1, bt308.2.1, bt308.2.2.1, bt308.2.2.2.1, bt308.2.2.2.2.1, bt308.2.2.2.2.2.1, bt308.2.2.2.2.2.2, Zt))))) = some (r1, r2, r3, r4, r5, r6, r7, r8) := by rw [if_neg (show ¬ (Zf = Zt) by decide)] at H; exact H
  clear H
  have H := H1
  clear H1
  replace H := Option.bind_eq_some_iff.mp H
  obtain ⟨t307, A270, H⟩ := H
  replace H : (if t307 = Zt then (some (0, 0, 0, 0, 0, 0, 0, Zf)) else ((layer_part.f k a0_0 a0_1 a0_2 a0_3 a0_4 a0_5 a0_6 t301 t302 t303 t304).bind fun bt308 => (some (bt308.1, bt308.2.1, bt308.2.2.1, bt308.2.2.2.1, bt308.2.2.2.2.1, bt308.2.2.2.2.2.1, bt308.2.2.2.2.2.2, Zt)))) = some (r1, r2, r3, r4, r5, r6, r7, r8) := H
  have A27 := Za A270
  clear A270
  by_cases c28 : t307 = Zt
  ·subst c28
   have H1 : (some (0, 0, 0, 0, 0, 0, 0, Zf)) = some (r1, r2, r3, r4, r5, r6, r7, r8) := by rw [if_pos rfl] at H; exact H
   clear H
   have H := H1
   clear H1
   simp only [Option.some.injEq, Prod.mk.injEq] at H
   obtain ⟨rfl, rfl, rfl, rfl, rfl, rfl, rfl, rfl⟩ := H
   go_enter Try.func64, Try.ntmps64
   try go_wp2_with (first | ((with_reducible refine gate_dst (N := 2) rfl ?_); refine box_event ?hg (N := 2) ?hd (cs := #[.int .i64 a0_0, .int .i64 a0_1, .int .i64 a0_2, .int .i64 a0_3, .int .i64 a0_4, .int .i64 a0_5, .int .i64 a0_6]) (t := 55) ?hr ?_; (case hd => rfl); (case hg => rfl); (case hr => first | (go_simp; done) | (go_simp; rfl)); intro gb294 hg w29 hbox hb; have n0_ := Za (Xl (hb_13 HB.out) hb); have n1_ := Za (hbox); have n2_ := Za ((by rw [hg]; exact (Xm (hb_13 HB.out)) : w.heap.size ≤ gb294)); have n3_ := Za ((by rw [hg]; exact (Xm (hb_13 HB.out)) : w.heap.size ≤ gb294)); clear HB; have HB := n0_; have BK294 := n1_; have GW294 := n2_; have GE294 := n3_; clear n0_ n1_ n2_ n3_; clear hb hbox hg) | ((with_reducible refine gate_dst (N := 3) rfl ?_); refine box_event ?hg (N := 3) ?hd (cs := #[.int .i64 a1_0, .int .i64 a1_1, .int .i64 a1_2, .int .i64 a1_3]) (t := 37) ?hr ?_; (case hd => rfl); (case hg => rfl); (case hr => first | (go_simp; done) | (go_simp; rfl)); intro gb295 hg w30 hbox hb; have n0_ := Za (Xf (g := gb294) (o := .cells #[.int .i64 a0_0, .int .i64 a0_1, .int .i64 a0_2, .int .i64 a0_3, .int .i64 a0_4, .int .i64 a0_5, .int .i64 a0_6] 55 (0, 0)) (bb_13 BK294.out) hb); have n1_ := Za (Xl (hb_13 HB.out) hb); have n2_ := Za (hbox); have n3_ := Za ((by rw [hg]; exact (Xm (hb_13 HB.out)) : w.heap.size ≤ gb295)); have n4_ := Za ((by rw [hg]; exact (Xm (hb_13 HB.out)) : w.heap.size ≤ gb295)); have n5_ := Za ((by rw [hg]; exact Nat.ne_of_lt (Xk (g := gb294) (o := .cells #[.int .i64 a0_0, .int .i64 a0_1, .int .i64 a0_2, .int .i64 a0_3, .int .i64 a0_4, .int .i64 a0_5, .int .i64 a0_6] 55 (0, 0)) (bb_13 BK294.out)) : gb294 ≠ gb295)); have n6_ := Za ((by rw [hg]; exact Nat.ne_of_gt (Xk (g := gb294) (o := .cells #[.int .i64 a0_0, .int .i64 a0_1, .int .i64 a0_2, .int .i64 a0_3, .int .i64 a0_4, .int .i64 a0_5, .int .i64 a0_6] 55 (0, 0)) (bb_13 BK294.out)) : gb295 ≠ gb294)); clear BK294; clear HB; have BK294 := n0_; have HB := n1_; have BK295 := n2_; have GW295 := n3_; have GE295 := n4_; have NB294_295 := n5_; have NB295_294 := n6_; clear n0_ n1_ n2_ n3_ n4_ n5_ n6_; clear hb hbox hg) | ((with_reducible refine gate_dst (N := 4) rfl ?_); refine box_event ?hg (N := 4) ?hd (cs := #[.int .i64 0, .int .i64 0, .int .i64 0, .int .i64 0, .int .i64 0, .int .i64 0, .int .i64 0]) (t := 55) ?hr ?_; (case hd => rfl); (case hg => rfl); (case hr => first | (go_simp; done) | (go_simp; rfl)); intro gb296 hg w31 hbox hb; have n0_ := Za (Xf (g := gb294) (o := .cells #[.int .i64 a0_0, .int .i64 a0_1, .int .i64 a0_2, .int .i64 a0_3, .int .i64 a0_4, .int .i64 a0_5, .int .i64 a0_6] 55 (0, 0)) (bb_13 BK294.out) hb); have n1_ := Za (Xf (g := gb295) (o := .cells #[.int .i64 a1_0, .int .i64 a1_1, .int .i64 a1_2, .int .i64 a1_3] 37 (0, 0)) (bb_13 BK295.out) hb); have n2_ := Za (Xl (hb_13 HB.out) hb); have n3_ := Za (hbox); have n4_ := Za ((by rw [hg]; exact (Xm (hb_13 HB.out)) : w.heap.size ≤ gb296)); have n5_ := Za ((by rw [hg]; exact (Xm (hb_13 HB.out)) : w.heap.size ≤ gb296)); have n6_ := Za ((by rw [hg]; exact Nat.ne_of_lt (Xk (g := gb294) (o := .cells #[.int .i64 a0_0, .int .i64 a0_1, .int .i64 a0_2, .int .i64 a0_3, .int .i64 a0_4, .int .i64 a0_5, .int .i64 a0_6] 55 (0, 0)) (bb_13 BK294.out)) : gb294 ≠ gb296)); have n7_ := Za ((by rw [hg]; exact Nat.ne_of_gt (Xk (g := gb294) (o := .cells #[.int .i64 a0_0, .int .i64 a0_1, .int .i64 a0_2, .int .i64 a0_3, .int .i64 a0_4, .int .i64 a0_5, .int .i64 a0_6] 55 (0, 0)) (bb_13 BK294.out)) : gb296 ≠ gb294)); have n8_ := Za ((by rw [hg]; exact Nat.ne_of_lt (Xk (g := gb295) (o := .cells #[.int .i64 a1_0, .int .i64 a1_1, .int .i64 a1_2, .int .i64 a1_3] 37 (0, 0)) (bb_13 BK295.out)) : gb295 ≠ gb296)); have n9_ := Za ((by rw [hg]; exact Nat.ne_of_gt (Xk (g := gb295) (o := .cells #[.int .i64 a1_0, .int .i64 a1_1, .int .i64 a1_2, .int .i64 a1_3] 37 (0, 0)) (bb_13 BK295.out)) : gb296 ≠ gb295)); clear BK294; clear BK295; clear HB; have BK294 := n0_; have BK295 := n1_; have HB := n2_; have BK296 := n3_; have GW296 := n4_; have GE296 := n5_; have NB294_296 := n6_; have NB296_294 := n7_; have NB295_296 := n8_; have NB296_295 := n9_; clear n0_ n1_ n2_ n3_ n4_ n5_ n6_ n7_ n8_ n9_; clear hb hbox hg))
   have n0_ := Za (Xi BK294.out)
   have n1_ := Za (Xi BK295.out)
   have n2_ := Za (Xi BK296.out)
   have n3_ := Za (below_drew1 HB.out)
   clear BK294
   clear BK295
   clear BK296
   clear HB
   have BK294 := n0_
   have BK295 := n1_
   have BK296 := n2_
   have HB := n3_
   clear n0_ n1_ n2_ n3_
   refine start_ (n := 6) (S := fun w' => w'.cell? ⟨gb294, 0, none⟩ = some (.int .i64 a0_0) ∧ w'.cell? ⟨gb294, 1, none⟩ = some (.int .i64 a0_1) ∧ w'.cell? ⟨gb294, 2, none⟩ = some (.int .i64 a0_2) ∧ w'.cell? ⟨gb294, 3, none⟩ = some (.int .i64 a0_3) ∧ w'.cell? ⟨gb294, 4, none⟩ = some (.int .i64 a0_4) ∧ w'.cell? ⟨gb294, 5, none⟩ = some (.int .i64 a0_5) ∧ w'.cell? ⟨gb294, 6, none⟩ = some (.int .i64 a0_6) ∧ w'.cell? ⟨gb295, 0, none⟩ = some (.int .i64 a1_0) ∧ w'.cell? ⟨gb295, 1, none⟩ = some (.int .i64 a1_1) ∧ w'.cell? ⟨gb295, 2, none⟩ = some (.int .i64 a1_2) ∧ w'.cell? ⟨gb295, 3, none⟩ = some (.int .i64 a1_3)) (ds := []) #[Zf,Zf,Zf,Zf,Zf,Zf] (by kernel_rfl) rfl rfl ⟨(Xd BK294.out 0).trans rfl, (Xd BK294.out 1).trans rfl, (Xd BK294.out 2).trans rfl, (Xd BK294.out 3).trans rfl, (Xd BK294.out 4).trans rfl, (Xd BK294.out 5).trans rfl, (Xd BK294.out 6).trans rfl, (Xd BK295.out 0).trans rfl, (Xd BK295.out 1).trans rfl, (Xd BK295.out 2).trans rfl, (Xd BK295.out 3).trans rfl⟩ (fun hHeld => ?_)
   generalize w31.drew = w32 at BK294 BK295 BK296 HB hHeld ⊢
   refine take_ (i := 0) (N := some 7) (v := ?_) (a' := ?_) #[Zt,Zf,Zf,Zf,Zf,Zf] rfl rfl (by kernel_rfl) (fun _ _ _ h => h) (Or.inl ⟨by rfl, ?_⟩) hHeld ?_ ?_
   rotate_left
   ·rintro w' ⟨s0, s1, s2, s3, s4, s5, s6, s7, s8, s9, s10⟩
    go_simp
    with_reducible rfl
   rotate_left
   ·simp only [Act.put, Xa, Xb, Xc, i64_w, i32_w]
    rfl
   refine take_ (i := 2) (N := some 9) (v := ?_) (a' := ?_) #[Zt,Zf,Zt,Zf,Zf,Zf] rfl rfl (by kernel_rfl) (fun _ _ _ h => h) (Or.inl ⟨by rfl, ?_⟩) hHeld ?_ ?_
   rotate_left
   ·rintro w' ⟨s0, s1, s2, s3, s4, s5, s6, s7, s8, s9, s10⟩
    go_simp
    with_reducible rfl
   rotate_left
   ·simp only [Act.put, Xa, Xb, Xc, i64_w, i32_w]
    rfl
   refine join_ (σ := Nat) 1 #[Zt,Zt,Zt,Zt,Zt,Zf] (fun s_ => [(8, .agg #[.int .i64 t297, .int .i64 t298, .int .i64 t299, .int .i64 t300]), (10, .agg #[.int .i64 t301, .int .i64 t302, .int .i64 t303, .int .i64 t304]), (6, .pointer (some ⟨s_, 0, none⟩))]) (fun s_ w' => (w'.cell? ⟨gb294, 0, none⟩ = some (.int .i64 a0_0) ∧ w'.cell? ⟨gb294, 1, none⟩ = some (.int .i64 a0_1) ∧ w'.cell? ⟨gb294, 2, none⟩ = some (.int .i64 a0_2) ∧ w'.cell? ⟨gb294, 3, none⟩ = some (.int .i64 a0_3) ∧ w'.cell? ⟨gb294, 4, none⟩ = some (.int .i64 a0_4) ∧ w'.cell? ⟨gb294, 5, none⟩ = some (.int .i64 a0_5) ∧ w'.cell? ⟨gb294, 6, none⟩ = some (.int .i64 a0_6) ∧ w'.cell? ⟨gb295, 0, none⟩ = some (.int .i64 a1_0) ∧ w'.cell? ⟨gb295, 1, none⟩ = some (.int .i64 a1_1) ∧ w'.cell? ⟨gb295, 2, none⟩ = some (.int .i64 a1_2) ∧ w'.cell? ⟨gb295, 3, none⟩ = some (.int .i64 a1_3)) ∧ (w'.heap[gb294]? = some (.cells #[.int .i64 a0_0, .int .i64 a0_1, .int .i64 a0_2, .int .i64 a0_3, .int .i64 a0_4, .int .i64 a0_5, .int .i64 a0_6] 55 (0, 0))) ∧ (w'.heap[gb295]? = some (.cells #[.int .i64 a1_0, .int .i64 a1_1, .int .i64 a1_2, .int .i64 a1_3] 37 (0, 0))) ∧ (w'.heap[gb296]? = some (.cells #[.int .i64 0, .int .i64 0, .int .i64 0, .int .i64 0, .int .i64 0, .int .i64 0, .int .i64 0] 55 (0, 0))) ∧ (w'.heap[s_]? = some (.cells #[.int .i64 0, .int .i64 0, .int .i64 0, .int .i64 0] 37 (0, 0))) ∧ (w.heap.size ≤ s_) ∧ (w.heap.size ≤ s_) ∧ (gb294 ≠ s_) ∧ (s_ ≠ gb294) ∧ (gb295 ≠ s_) ∧ (s_ ≠ gb295) ∧ (gb296 ≠ s_) ∧ (s_ ≠ gb296) ∧ (Below w.heap.size w w')) ?_ ?_
   rotate_left
   ·intro hCont
    refine two_ (i := 1) (j := 4) (Ni := some 8) (Nj := some 6) #[Zt,Zt,Zt,Zf,Zf,Zf] #[Zt,Zf,Zt,Zf,Zt,Zf] rfl rfl rfl rfl (by kernel_rfl) (by decide) (by decide) (fun K hK => ?_) (fun K hK => ?_)
    ·skip
     refine goes_ Try.func39 (by kernel_rfl) rfl #[.agg #[.int .i64 a0_0, .int .i64 a0_1, .int .i64 a0_2, .int .i64 a0_3, .int .i64 a0_4, .int .i64 a0_5, .int .i64 a0_6]] (by rfl) rfl rfl (by (try simp only [List.map_toArray, List.map_cons, List.map_nil]); first | done | rfl | (simp only [List.length_drop, List.length_take]; rfl)) ?_
     with_reducible refine (layer_Lies.calls k a0_0 a0_1 a0_2 a0_3 a0_4 a0_5 a0_6 t297 t298 t299 t300 _ A3.out).mono ?_
     rintro e w33 ⟨rfl, hb⟩
     refine ⟨_, rfl, ?_⟩
     have n0_ := Za (Xf (g := gb294) (o := .cells #[.int .i64 a0_0, .int .i64 a0_1, .int .i64 a0_2, .int .i64 a0_3, .int .i64 a0_4, .int .i64 a0_5, .int .i64 a0_6] 55 (0, 0)) (bb_13 BK294.out) hb)
     have n1_ := Za (Xf (g := gb295) (o := .cells #[.int .i64 a1_0, .int .i64 a1_1, .int .i64 a1_2, .int .i64 a1_3] 37 (0, 0)) (bb_13 BK295.out) hb)
     have n2_ := Za (Xf (g := gb296) (o := .cells #[.int .i64 0, .int .i64 0, .int .i64 0, .int .i64 0, .int .i64 0, .int .i64 0, .int .i64 0] 55 (0, 0)) (bb_13 BK296.out) hb)
     have n3_ := Za (Xl (hb_13 HB.out) hb)
     clear BK294
     clear BK295
     clear BK296
     clear HB
     have BK294 := n0_
     have BK295 := n1_
     have BK296 := n2_
     have HB := n3_
     clear n0_ n1_ n2_ n3_
     (try clear hb)
     (try clear hb2)
     (try clear hk)
     (try clear hi)
     refine hK.out _ _ ⟨(Xd BK294.out 0).trans rfl, (Xd BK294.out 1).trans rfl, (Xd BK294.out 2).trans rfl, (Xd BK294.out 3).trans rfl, (Xd BK294.out 4).trans rfl, (Xd BK294.out 5).trans rfl, (Xd BK294.out 6).trans rfl, (Xd BK295.out 0).trans rfl, (Xd BK295.out 1).trans rfl, (Xd BK295.out 2).trans rfl, (Xd BK295.out 3).trans rfl⟩ (fun hHeld => ?_)
     clear hK K
     refine norm_ (a' := ?_) ?_ ?_
     rotate_left
     ·show Act.put _ (some 8) _ = _
      simp only [Act.put, Xa, Xb, Xc, i64_w, i32_w]
      rfl
     refine two_ (i := 3) (j := 4) (Ni := some 10) (Nj := some 6) #[Zt,Zt,Zt,Zt,Zf,Zf] #[Zt,Zt,Zt,Zf,Zt,Zf] rfl rfl rfl rfl (by kernel_rfl) (by decide) (by decide) (fun K hK => ?_) (fun K hK => ?_)
     ·skip
      refine goes_ Try.func89 (by kernel_rfl) rfl #[.agg #[.int .i64 t297, .int .i64 t298, .int .i64 t299, .int .i64 t300], .agg #[.int .i64 a1_0, .int .i64 a1_1, .int .i64 a1_2, .int .i64 a1_3]] (by rfl) rfl rfl (by (try simp only [List.map_toArray, List.map_cons, List.map_nil]); first | done | rfl | (simp only [List.length_drop, List.length_take]; rfl)) ?_
      with_reducible refine (box_Meet.calls t297 t298 t299 t300 a1_0 a1_1 a1_2 a1_3 t301 t302 t303 t304 _ A4.out).mono ?_
      rintro e w34 ⟨rfl, hb⟩
      refine ⟨_, rfl, ?_⟩
      have n0_ := Za (Xf (g := gb294) (o := .cells #[.int .i64 a0_0, .int .i64 a0_1, .int .i64 a0_2, .int .i64 a0_3, .int .i64 a0_4, .int .i64 a0_5, .int .i64 a0_6] 55 (0, 0)) (bb_13 BK294.out) hb)
      have n1_ := Za (Xf (g := gb295) (o := .cells #[.int .i64 a1_0, .int .i64 a1_1, .int .i64 a1_2, .int .i64 a1_3] 37 (0, 0)) (bb_13 BK295.out) hb)
      have n2_ := Za (Xf (g := gb296) (o := .cells #[.int .i64 0, .int .i64 0, .int .i64 0, .int .i64 0, .int .i64 0, .int .i64 0, .int .i64 0] 55 (0, 0)) (bb_13 BK296.out) hb)
      have n3_ := Za (Xl (hb_13 HB.out) hb)
      clear BK294
      clear BK295
      clear BK296
      clear HB
      have BK294 := n0_
      have BK295 := n1_
      have BK296 := n2_
      have HB := n3_
      clear n0_ n1_ n2_ n3_
      (try clear hb)
      (try clear hb2)
      (try clear hk)
      (try clear hi)
      refine hK.out _ _ ⟨(Xd BK294.out 0).trans rfl, (Xd BK294.out 1).trans rfl, (Xd BK294.out 2).trans rfl, (Xd BK294.out 3).trans rfl, (Xd BK294.out 4).trans rfl, (Xd BK294.out 5).trans rfl, (Xd BK294.out 6).trans rfl, (Xd BK295.out 0).trans rfl, (Xd BK295.out 1).trans rfl, (Xd BK295.out 2).trans rfl, (Xd BK295.out 3).trans rfl⟩ (fun hHeld => ?_)
      clear hK K
      refine norm_ (a' := ?_) ?_ ?_
      rotate_left
      ·show Act.put _ (some 10) _ = _
       simp only [Act.put, Xa, Xb, Xc, i64_w, i32_w]
       rfl
      refine one_ (i := 4) (N := some 6) #[Zt,Zt,Zt,Zt,Zt,Zf] rfl rfl (by kernel_rfl) (by decide) (fun K hK => ?_)
      refine box_step ?hg (N := 6) ?hd (cs := #[.int .i64 0, .int .i64 0, .int .i64 0, .int .i64 0]) (t := 37) ?hr ?_; (case hd => rfl); (case hg => rfl); (case hr => first | (go_simp; done) | (go_simp; rfl))
      intro gb305 hg w35 hbox hb
      have n0_ := Za (Xf (g := gb294) (o := .cells #[.int .i64 a0_0, .int .i64 a0_1, .int .i64 a0_2, .int .i64 a0_3, .int .i64 a0_4, .int .i64 a0_5, .int .i64 a0_6] 55 (0, 0)) (bb_13 BK294.out) hb)
      have n1_ := Za (Xf (g := gb295) (o := .cells #[.int .i64 a1_0, .int .i64 a1_1, .int .i64 a1_2, .int .i64 a1_3] 37 (0, 0)) (bb_13 BK295.out) hb)
      have n2_ := Za (Xf (g := gb296) (o := .cells #[.int .i64 0, .int .i64 0, .int .i64 0, .int .i64 0, .int .i64 0, .int .i64 0, .int .i64 0] 55 (0, 0)) (bb_13 BK296.out) hb)
      have n3_ := Za (Xl (hb_13 HB.out) hb)
      have n4_ := Za (hbox)
      have n5_ := Za ((by rw [hg]; exact (Xm (hb_13 HB.out)) : w.heap.size ≤ gb305))
      have n6_ := Za ((by rw [hg]; exact (Xm (hb_13 HB.out)) : w.heap.size ≤ gb305))
      have n7_ := Za ((by rw [hg]; exact Nat.ne_of_lt (Xk (g := gb294) (o := .cells #[.int .i64 a0_0, .int .i64 a0_1, .int .i64 a0_2, .int .i64 a0_3, .int .i64 a0_4, .int .i64 a0_5, .int .i64 a0_6] 55 (0, 0)) (bb_13 BK294.out)) : gb294 ≠ gb305))
      have n8_ := Za ((by rw [hg]; exact Nat.ne_of_gt (Xk (g := gb294) (o := .cells #[.int .i64 a0_0, .int .i64 a0_1, .int .i64 a0_2, .int .i64 a0_3, .int .i64 a0_4, .int .i64 a0_5, .int .i64 a0_6] 55 (0, 0)) (bb_13 BK294.out)) : gb305 ≠ gb294))
      have n9_ := Za ((by rw [hg]; exact Nat.ne_of_lt (Xk (g := gb295) (o := .cells #[.int .i64 a1_0, .int .i64 a1_1, .int .i64 a1_2, .int .i64 a1_3] 37 (0, 0)) (bb_13 BK295.out)) : gb295 ≠ gb305))
      have n10_ := Za ((by rw [hg]; exact Nat.ne_of_gt (Xk (g := gb295) (o := .cells #[.int .i64 a1_0, .int .i64 a1_1, .int .i64 a1_2, .int .i64 a1_3] 37 (0, 0)) (bb_13 BK295.out)) : gb305 ≠ gb295))
      have n11_ := Za ((by rw [hg]; exact Nat.ne_of_lt (Xk (g := gb296) (o := .cells #[.int .i64 0, .int .i64 0, .int .i64 0, .int .i64 0, .int .i64 0, .int .i64 0, .int .i64 0] 55 (0, 0)) (bb_13 BK296.out)) : gb296 ≠ gb305))
      have n12_ := Za ((by rw [hg]; exact Nat.ne_of_gt (Xk (g := gb296) (o := .cells #[.int .i64 0, .int .i64 0, .int .i64 0, .int .i64 0, .int .i64 0, .int .i64 0, .int .i64 0] 55 (0, 0)) (bb_13 BK296.out)) : gb305 ≠ gb296))
      clear BK294
      clear BK295
      clear BK296
      clear HB
      have BK294 := n0_
      have BK295 := n1_
      have BK296 := n2_
      have HB := n3_
      have BK305 := n4_
      have GW305 := n5_
      have GE305 := n6_
      have NB294_305 := n7_
      have NB305_294 := n8_
      have NB295_305 := n9_
      have NB305_295 := n10_
      have NB296_305 := n11_
      have NB305_296 := n12_
      clear n0_ n1_ n2_ n3_ n4_ n5_ n6_ n7_ n8_ n9_ n10_ n11_ n12_
      clear hb hbox hg
      refine hK.out _ _ ⟨(Xd BK294.out 0).trans rfl, (Xd BK294.out 1).trans rfl, (Xd BK294.out 2).trans rfl, (Xd BK294.out 3).trans rfl, (Xd BK294.out 4).trans rfl, (Xd BK294.out 5).trans rfl, (Xd BK294.out 6).trans rfl, (Xd BK295.out 0).trans rfl, (Xd BK295.out 1).trans rfl, (Xd BK295.out 2).trans rfl, (Xd BK295.out 3).trans rfl⟩ (fun hHeld => ?_)
      clear hK K
      refine norm_ (a' := ?_) ?_ ?_
      rotate_left
      ·show Act.put _ (some 6) _ = _
       simp only [Act.put, Xa, Xb, Xc, i64_w, i32_w]
       rfl
      exact norm_ (by simp only [putAll, Act.put, Xa, Xb, Xc]) (hCont (gb305) _ ⟨hHeld, (bb_13 BK294.out), (bb_13 BK295.out), (bb_13 BK296.out), (bb_13 BK305.out), GW305.out, GE305.out, NB294_305.out, NB305_294.out, NB295_305.out, NB305_295.out, NB296_305.out, NB305_296.out, (hb_13 HB.out)⟩)
     ·skip
      refine box_step ?hg (N := 6) ?hd (cs := #[.int .i64 0, .int .i64 0, .int .i64 0, .int .i64 0]) (t := 37) ?hr ?_; (case hd => rfl); (case hg => rfl); (case hr => first | (go_simp; done) | (go_simp; rfl))
      intro gb305 hg w34 hbox hb
      have n0_ := Za (Xf (g := gb294) (o := .cells #[.int .i64 a0_0, .int .i64 a0_1, .int .i64 a0_2, .int .i64 a0_3, .int .i64 a0_4, .int .i64 a0_5, .int .i64 a0_6] 55 (0, 0)) (bb_13 BK294.out) hb)
      have n1_ := Za (Xf (g := gb295) (o := .cells #[.int .i64 a1_0, .int .i64 a1_1, .int .i64 a1_2, .int .i64 a1_3] 37 (0, 0)) (bb_13 BK295.out) hb)
      have n2_ := Za (Xf (g := gb296) (o := .cells #[.int .i64 0, .int .i64 0, .int .i64 0, .int .i64 0, .int .i64 0, .int .i64 0, .int .i64 0] 55 (0, 0)) (bb_13 BK296.out) hb)
      have n3_ := Za (Xl (hb_13 HB.out) hb)
      have n4_ := Za (hbox)
      have n5_ := Za ((by rw [hg]; exact (Xm (hb_13 HB.out)) : w.heap.size ≤ gb305))
      have n6_ := Za ((by rw [hg]; exact (Xm (hb_13 HB.out)) : w.heap.size ≤ gb305))
      have n7_ := Za ((by rw [hg]; exact Nat.ne_of_lt (Xk (g := gb294) (o := .cells #[.int .i64 a0_0, .int .i64 a0_1, .int .i64 a0_2, .int .i64 a0_3, .int .i64 a0_4, .int .i64 a0_5, .int .i64 a0_6] 55 (0, 0)) (bb_13 BK294.out)) : gb294 ≠ gb305))
      have n8_ := Za ((by rw [hg]; exact Nat.ne_of_gt (Xk (g := gb294) (o := .cells #[.int .i64 a0_0, .int .i64 a0_1, .int .i64 a0_2, .int .i64 a0_3, .int .i64 a0_4, .int .i64 a0_5, .int .i64 a0_6] 55 (0, 0)) (bb_13 BK294.out)) : gb305 ≠ gb294))
      have n9_ := Za ((by rw [hg]; exact Nat.ne_of_lt (Xk (g := gb295) (o := .cells #[.int .i64 a1_0, .int .i64 a1_1, .int .i64 a1_2, .int .i64 a1_3] 37 (0, 0)) (bb_13 BK295.out)) : gb295 ≠ gb305))
      have n10_ := Za ((by rw [hg]; exact Nat.ne_of_gt (Xk (g := gb295) (o := .cells #[.int .i64 a1_0, .int .i64 a1_1, .int .i64 a1_2, .int .i64 a1_3] 37 (0, 0)) (bb_13 BK295.out)) : gb305 ≠ gb295))
      have n11_ := Za ((by rw [hg]; exact Nat.ne_of_lt (Xk (g := gb296) (o := .cells #[.int .i64 0, .int .i64 0, .int .i64 0, .int .i64 0, .int .i64 0, .int .i64 0, .int .i64 0] 55 (0, 0)) (bb_13 BK296.out)) : gb296 ≠ gb305))
      have n12_ := Za ((by rw [hg]; exact Nat.ne_of_gt (Xk (g := gb296) (o := .cells #[.int .i64 0, .int .i64 0, .int .i64 0, .int .i64 0, .int .i64 0, .int .i64 0, .int .i64 0] 55 (0, 0)) (bb_13 BK296.out)) : gb305 ≠ gb296))
      clear BK294
      clear BK295
      clear BK296
      clear HB
      have BK294 := n0_
      have BK295 := n1_
      have BK296 := n2_
      have HB := n3_
      have BK305 := n4_
      have GW305 := n5_
      have GE305 := n6_
      have NB294_305 := n7_
      have NB305_294 := n8_
      have NB295_305 := n9_
      have NB305_295 := n10_
      have NB296_305 := n11_
      have NB305_296 := n12_
      clear n0_ n1_ n2_ n3_ n4_ n5_ n6_ n7_ n8_ n9_ n10_ n11_ n12_
      clear hb hbox hg
      refine hK.out _ _ ⟨(Xd BK294.out 0).trans rfl, (Xd BK294.out 1).trans rfl, (Xd BK294.out 2).trans rfl, (Xd BK294.out 3).trans rfl, (Xd BK294.out 4).trans rfl, (Xd BK294.out 5).trans rfl, (Xd BK294.out 6).trans rfl, (Xd BK295.out 0).trans rfl, (Xd BK295.out 1).trans rfl, (Xd BK295.out 2).trans rfl, (Xd BK295.out 3).trans rfl⟩ (fun hHeld => ?_)
      clear hK K
      refine norm_ (a' := ?_) ?_ ?_
      rotate_left
      ·show Act.put _ (some 6) _ = _
       simp only [Act.put, Xa, Xb, Xc, i64_w, i32_w]
       rfl
      refine one_ (i := 3) (N := some 10) #[Zt,Zt,Zt,Zt,Zt,Zf] rfl rfl (by kernel_rfl) (by decide) (fun K hK => ?_)
      refine goes_ Try.func89 (by kernel_rfl) rfl #[.agg #[.int .i64 t297, .int .i64 t298, .int .i64 t299, .int .i64 t300], .agg #[.int .i64 a1_0, .int .i64 a1_1, .int .i64 a1_2, .int .i64 a1_3]] (by rfl) rfl rfl (by (try simp only [List.map_toArray, List.map_cons, List.map_nil]); first | done | rfl | (simp only [List.length_drop, List.length_take]; rfl)) ?_
      with_reducible refine (box_Meet.calls t297 t298 t299 t300 a1_0 a1_1 a1_2 a1_3 t301 t302 t303 t304 _ A4.out).mono ?_
      rintro e w35 ⟨rfl, hb⟩
      refine ⟨_, rfl, ?_⟩
      have n0_ := Za (Xf (g := gb294) (o := .cells #[.int .i64 a0_0, .int .i64 a0_1, .int .i64 a0_2, .int .i64 a0_3, .int .i64 a0_4, .int .i64 a0_5, .int .i64 a0_6] 55 (0, 0)) (bb_13 BK294.out) hb)
      have n1_ := Za (Xf (g := gb295) (o := .cells #[.int .i64 a1_0, .int .i64 a1_1, .int .i64 a1_2, .int .i64 a1_3] 37 (0, 0)) (bb_13 BK295.out) hb)
      have n2_ := Za (Xf (g := gb296) (o := .cells #[.int .i64 0, .int .i64 0, .int .i64 0, .int .i64 0, .int .i64 0, .int .i64 0, .int .i64 0] 55 (0, 0)) (bb_13 BK296.out) hb)
      have n3_ := Za (Xf (g := gb305) (o := .cells #[.int .i64 0, .int .i64 0, .int .i64 0, .int .i64 0] 37 (0, 0)) (bb_13 BK305.out) hb)
      have n4_ := Za (Xl (hb_13 HB.out) hb)
      clear BK294
      clear BK295
      clear BK296
      clear BK305
      clear HB
      have BK294 := n0_
      have BK295 := n1_
      have BK296 := n2_
      have BK305 := n3_
      have HB := n4_
      clear n0_ n1_ n2_ n3_ n4_
      (try clear hb)
      (try clear hb2)
      (try clear hk)
      (try clear hi)
      refine hK.out _ _ ⟨(Xd BK294.out 0).trans rfl, (Xd BK294.out 1).trans rfl, (Xd BK294.out 2).trans rfl, (Xd BK294.out 3).trans rfl, (Xd BK294.out 4).trans rfl, (Xd BK294.out 5).trans rfl, (Xd BK294.out 6).trans rfl, (Xd BK295.out 0).trans rfl, (Xd BK295.out 1).trans rfl, (Xd BK295.out 2).trans rfl, (Xd BK295.out 3).trans rfl⟩ (fun hHeld => ?_)
      clear hK K
      refine norm_ (a' := ?_) ?_ ?_
      rotate_left
      ·show Act.put _ (some 10) _ = _
       simp only [Act.put, Xa, Xb, Xc, i64_w, i32_w]
       rfl
      exact norm_ (by simp only [putAll, Act.put, Xa, Xb, Xc]) (hCont (gb305) _ ⟨hHeld, (bb_13 BK294.out), (bb_13 BK295.out), (bb_13 BK296.out), (bb_13 BK305.out), GW305.out, GE305.out, NB294_305.out, NB305_294.out, NB295_305.out, NB305_295.out, NB296_305.out, NB305_296.out, (hb_13 HB.out)⟩)
    ·skip
     refine box_step ?hg (N := 6) ?hd (cs := #[.int .i64 0, .int .i64 0, .int .i64 0, .int .i64 0]) (t := 37) ?hr ?_; (case hd => rfl); (case hg => rfl); (case hr => first | (go_simp; done) | (go_simp; rfl))
     intro gb305 hg w33 hbox hb
     have n0_ := Za (Xf (g := gb294) (o := .cells #[.int .i64 a0_0, .int .i64 a0_1, .int .i64 a0_2, .int .i64 a0_3, .int .i64 a0_4, .int .i64 a0_5, .int .i64 a0_6] 55 (0, 0)) (bb_13 BK294.out) hb)
     have n1_ := Za (Xf (g := gb295) (o := .cells #[.int .i64 a1_0, .int .i64 a1_1, .int .i64 a1_2, .int .i64 a1_3] 37 (0, 0)) (bb_13 BK295.out) hb)
     have n2_ := Za (Xf (g := gb296) (o := .cells #[.int .i64 0, .int .i64 0, .int .i64 0, .int .i64 0, .int .i64 0, .int .i64 0, .int .i64 0] 55 (0, 0)) (bb_13 BK296.out) hb)
     have n3_ := Za (Xl (hb_13 HB.out) hb)
     have n4_ := Za (hbox)
     have n5_ := Za ((by rw [hg]; exact (Xm (hb_13 HB.out)) : w.heap.size ≤ gb305))
     have n6_ := Za ((by rw [hg]; exact (Xm (hb_13 HB.out)) : w.heap.size ≤ gb305))
     have n7_ := Za ((by rw [hg]; exact Nat.ne_of_lt (Xk (g := gb294) (o := .cells #[.int .i64 a0_0, .int .i64 a0_1, .int .i64 a0_2, .int .i64 a0_3, .int .i64 a0_4, .int .i64 a0_5, .int .i64 a0_6] 55 (0, 0)) (bb_13 BK294.out)) : gb294 ≠ gb305))
     have n8_ := Za ((by rw [hg]; exact Nat.ne_of_gt (Xk (g := gb294) (o := .cells #[.int .i64 a0_0, .int .i64 a0_1, .int .i64 a0_2, .int .i64 a0_3, .int .i64 a0_4, .int .i64 a0_5, .int .i64 a0_6] 55 (0, 0)) (bb_13 BK294.out)) : gb305 ≠ gb294))
     have n9_ := Za ((by rw [hg]; exact Nat.ne_of_lt (Xk (g := gb295) (o := .cells #[.int .i64 a1_0, .int .i64 a1_1, .int .i64 a1_2, .int .i64 a1_3] 37 (0, 0)) (bb_13 BK295.out)) : gb295 ≠ gb305))
     have n10_ := Za ((by rw [hg]; exact Nat.ne_of_gt (Xk (g := gb295) (o := .cells #[.int .i64 a1_0, .int .i64 a1_1, .int .i64 a1_2, .int .i64 a1_3] 37 (0, 0)) (bb_13 BK295.out)) : gb305 ≠ gb295))
     have n11_ := Za ((by rw [hg]; exact Nat.ne_of_lt (Xk (g := gb296) (o := .cells #[.int .i64 0, .int .i64 0, .int .i64 0, .int .i64 0, .int .i64 0, .int .i64 0, .int .i64 0] 55 (0, 0)) (bb_13 BK296.out)) : gb296 ≠ gb305))
     have n12_ := Za ((by rw [hg]; exact Nat.ne_of_gt (Xk (g := gb296) (o := .cells #[.int .i64 0, .int .i64 0, .int .i64 0, .int .i64 0, .int .i64 0, .int .i64 0, .int .i64 0] 55 (0, 0)) (bb_13 BK296.out)) : gb305 ≠ gb296))
     clear BK294
     clear BK295
     clear BK296
     clear HB
     have BK294 := n0_
     have BK295 := n1_
     have BK296 := n2_
     have HB := n3_
     have BK305 := n4_
     have GW305 := n5_
     have GE305 := n6_
     have NB294_305 := n7_
     have NB305_294 := n8_
     have NB295_305 := n9_
     have NB305_295 := n10_
     have NB296_305 := n11_
     have NB305_296 := n12_
     clear n0_ n1_ n2_ n3_ n4_ n5_ n6_ n7_ n8_ n9_ n10_ n11_ n12_
     clear hb hbox hg
     refine hK.out _ _ ⟨(Xd BK294.out 0).trans rfl, (Xd BK294.out 1).trans rfl, (Xd BK294.out 2).trans rfl, (Xd BK294.out 3).trans rfl, (Xd BK294.out 4).trans rfl, (Xd BK294.out 5).trans rfl, (Xd BK294.out 6).trans rfl, (Xd BK295.out 0).trans rfl, (Xd BK295.out 1).trans rfl, (Xd BK295.out 2).trans rfl, (Xd BK295.out 3).trans rfl⟩ (fun hHeld => ?_)
     clear hK K
     refine norm_ (a' := ?_) ?_ ?_
     rotate_left
     ·show Act.put _ (some 6) _ = _
      simp only [Act.put, Xa, Xb, Xc, i64_w, i32_w]
      rfl
     refine one_ (i := 1) (N := some 8) #[Zt,Zt,Zt,Zf,Zt,Zf] rfl rfl (by kernel_rfl) (by decide) (fun K hK => ?_)
     refine goes_ Try.func39 (by kernel_rfl) rfl #[.agg #[.int .i64 a0_0, .int .i64 a0_1, .int .i64 a0_2, .int .i64 a0_3, .int .i64 a0_4, .int .i64 a0_5, .int .i64 a0_6]] (by rfl) rfl rfl (by (try simp only [List.map_toArray, List.map_cons, List.map_nil]); first | done | rfl | (simp only [List.length_drop, List.length_take]; rfl)) ?_
     with_reducible refine (layer_Lies.calls k a0_0 a0_1 a0_2 a0_3 a0_4 a0_5 a0_6 t297 t298 t299 t300 _ A3.out).mono ?_
     rintro e w34 ⟨rfl, hb⟩
     refine ⟨_, rfl, ?_⟩
     have n0_ := Za (Xf (g := gb294) (o := .cells #[.int .i64 a0_0, .int .i64 a0_1, .int .i64 a0_2, .int .i64 a0_3, .int .i64 a0_4, .int .i64 a0_5, .int .i64 a0_6] 55 (0, 0)) (bb_13 BK294.out) hb)
     have n1_ := Za (Xf (g := gb295) (o := .cells #[.int .i64 a1_0, .int .i64 a1_1, .int .i64 a1_2, .int .i64 a1_3] 37 (0, 0)) (bb_13 BK295.out) hb)
     have n2_ := Za (Xf (g := gb296) (o := .cells #[.int .i64 0, .int .i64 0, .int .i64 0, .int .i64 0, .int .i64 0, .int .i64 0, .int .i64 0] 55 (0, 0)) (bb_13 BK296.out) hb)
     have n3_ := Za (Xf (g := gb305) (o := .cells #[.int .i64 0, .int .i64 0, .int .i64 0, .int .i64 0] 37 (0, 0)) (bb_13 BK305.out) hb)
     have n4_ := Za (Xl (hb_13 HB.out) hb)
     clear BK294
     clear BK295
     clear BK296
     clear BK305
     clear HB
     have BK294 := n0_
     have BK295 := n1_
     have BK296 := n2_
     have BK305 := n3_
     have HB := n4_
     clear n0_ n1_ n2_ n3_ n4_
     (try clear hb)
     (try clear hb2)
     (try clear hk)
     (try clear hi)
     refine hK.out _ _ ⟨(Xd BK294.out 0).trans rfl, (Xd BK294.out 1).trans rfl, (Xd BK294.out 2).trans rfl, (Xd BK294.out 3).trans rfl, (Xd BK294.out 4).trans rfl, (Xd BK294.out 5).trans rfl, (Xd BK294.out 6).trans rfl, (Xd BK295.out 0).trans rfl, (Xd BK295.out 1).trans rfl, (Xd BK295.out 2).trans rfl, (Xd BK295.out 3).trans rfl⟩ (fun hHeld => ?_)
     clear hK K
     refine norm_ (a' := ?_) ?_ ?_
     rotate_left
     ·show Act.put _ (some 8) _ = _
      simp only [Act.put, Xa, Xb, Xc, i64_w, i32_w]
      rfl
     refine one_ (i := 3) (N := some 10) #[Zt,Zt,Zt,Zt,Zt,Zf] rfl rfl (by kernel_rfl) (by decide) (fun K hK => ?_)
     refine goes_ Try.func89 (by kernel_rfl) rfl #[.agg #[.int .i64 t297, .int .i64 t298, .int .i64 t299, .int .i64 t300], .agg #[.int .i64 a1_0, .int .i64 a1_1, .int .i64 a1_2, .int .i64 a1_3]] (by rfl) rfl rfl (by (try simp only [List.map_toArray, List.map_cons, List.map_nil]); first | done | rfl | (simp only [List.length_drop, List.length_take]; rfl)) ?_
     with_reducible refine (box_Meet.calls t297 t298 t299 t300 a1_0 a1_1 a1_2 a1_3 t301 t302 t303 t304 _ A4.out).mono ?_
     rintro e w35 ⟨rfl, hb⟩
     refine ⟨_, rfl, ?_⟩
     have n0_ := Za (Xf (g := gb294) (o := .cells #[.int .i64 a0_0, .int .i64 a0_1, .int .i64 a0_2, .int .i64 a0_3, .int .i64 a0_4, .int .i64 a0_5, .int .i64 a0_6] 55 (0, 0)) (bb_13 BK294.out) hb)
     have n1_ := Za (Xf (g := gb295) (o := .cells #[.int .i64 a1_0, .int .i64 a1_1, .int .i64 a1_2, .int .i64 a1_3] 37 (0, 0)) (bb_13 BK295.out) hb)
     have n2_ := Za (Xf (g := gb296) (o := .cells #[.int .i64 0, .int .i64 0, .int .i64 0, .int .i64 0, .int .i64 0, .int .i64 0, .int .i64 0] 55 (0, 0)) (bb_13 BK296.out) hb)
     have n3_ := Za (Xf (g := gb305) (o := .cells #[.int .i64 0, .int .i64 0, .int .i64 0, .int .i64 0] 37 (0, 0)) (bb_13 BK305.out) hb)
     have n4_ := Za (Xl (hb_13 HB.out) hb)
     clear BK294
     clear BK295
     clear BK296
     clear BK305
     clear HB
     have BK294 := n0_
     have BK295 := n1_
     have BK296 := n2_
     have BK305 := n3_
     have HB := n4_
     clear n0_ n1_ n2_ n3_ n4_
     (try clear hb)
     (try clear hb2)
     (try clear hk)
     (try clear hi)
     refine hK.out _ _ ⟨(Xd BK294.out 0).trans rfl, (Xd BK294.out 1).trans rfl, (Xd BK294.out 2).trans rfl, (Xd BK294.out 3).trans rfl, (Xd BK294.out 4).trans rfl, (Xd BK294.out 5).trans rfl, (Xd BK294.out 6).trans rfl, (Xd BK295.out 0).trans rfl, (Xd BK295.out 1).trans rfl, (Xd BK295.out 2).trans rfl, (Xd BK295.out 3).trans rfl⟩ (fun hHeld => ?_)
     clear hK K
     refine norm_ (a' := ?_) ?_ ?_
     rotate_left
     ·show Act.put _ (some 10) _ = _
      simp only [Act.put, Xa, Xb, Xc, i64_w, i32_w]
      rfl
     exact norm_ (by simp only [putAll, Act.put, Xa, Xb, Xc]) (hCont (gb305) _ ⟨hHeld, (bb_13 BK294.out), (bb_13 BK295.out), (bb_13 BK296.out), (bb_13 BK305.out), GW305.out, GE305.out, NB294_305.out, NB305_294.out, NB295_305.out, NB305_295.out, NB296_305.out, NB305_296.out, (hb_13 HB.out)⟩)
   rintro gb305 w36 ⟨hS_, h0_, h1_, h2_, h3_, h4_, h5_, h6_, h7_, h8_, h9_, h10_, h11_, h12_⟩
   have n0_ : Aside0 (w36.heap[gb294]? = some (.cells #[.int .i64 a0_0, .int .i64 a0_1, .int .i64 a0_2, .int .i64 a0_3, .int .i64 a0_4, .int .i64 a0_5, .int .i64 a0_6] 55 (0, 0))) := ⟨h0_⟩
   have n1_ : Aside0 (w36.heap[gb295]? = some (.cells #[.int .i64 a1_0, .int .i64 a1_1, .int .i64 a1_2, .int .i64 a1_3] 37 (0, 0))) := ⟨h1_⟩
   have n2_ : Aside0 (w36.heap[gb296]? = some (.cells #[.int .i64 0, .int .i64 0, .int .i64 0, .int .i64 0, .int .i64 0, .int .i64 0, .int .i64 0] 55 (0, 0))) := ⟨h2_⟩
   have n3_ : Aside0 (w36.heap[gb305]? = some (.cells #[.int .i64 0, .int .i64 0, .int .i64 0, .int .i64 0] 37 (0, 0))) := ⟨h3_⟩
   have n4_ : Aside0 (w.heap.size ≤ gb305) := ⟨h4_⟩
   have n5_ : Aside0 (w.heap.size ≤ gb305) := ⟨h5_⟩
   have n6_ : Aside0 (gb294 ≠ gb305) := ⟨h6_⟩
   have n7_ : Aside0 (gb305 ≠ gb294) := ⟨h7_⟩
   have n8_ : Aside0 (gb295 ≠ gb305) := ⟨h8_⟩
   have n9_ : Aside0 (gb305 ≠ gb295) := ⟨h9_⟩
   have n10_ : Aside0 (gb296 ≠ gb305) := ⟨h10_⟩
   have n11_ : Aside0 (gb305 ≠ gb296) := ⟨h11_⟩
   have n12_ : Aside0 (Below w.heap.size w w36) := ⟨h12_⟩
   clear BK294
   clear BK295
   clear BK296
   clear HB
   clear h0_ h1_ h2_ h3_ h4_ h5_ h6_ h7_ h8_ h9_ h10_ h11_ h12_
   have BK294 := n0_
   have BK295 := n1_
   have BK296 := n2_
   have BK305 := n3_
   have GW305 := n4_
   have GE305 := n5_
   have NB294_305 := n6_
   have NB305_294 := n7_
   have NB295_305 := n8_
   have NB305_295 := n9_
   have NB296_305 := n10_
   have NB305_296 := n11_
   have HB := n12_
   clear n0_ n1_ n2_ n3_ n4_ n5_ n6_ n7_ n8_ n9_ n10_ n11_ n12_
   have hHeld : w36.cell? ⟨gb294, 0, none⟩ = some (.int .i64 a0_0) ∧ w36.cell? ⟨gb294, 1, none⟩ = some (.int .i64 a0_1) ∧ w36.cell? ⟨gb294, 2, none⟩ = some (.int .i64 a0_2) ∧ w36.cell? ⟨gb294, 3, none⟩ = some (.int .i64 a0_3) ∧ w36.cell? ⟨gb294, 4, none⟩ = some (.int .i64 a0_4) ∧ w36.cell? ⟨gb294, 5, none⟩ = some (.int .i64 a0_5) ∧ w36.cell? ⟨gb294, 6, none⟩ = some (.int .i64 a0_6) ∧ w36.cell? ⟨gb295, 0, none⟩ = some (.int .i64 a1_0) ∧ w36.cell? ⟨gb295, 1, none⟩ = some (.int .i64 a1_1) ∧ w36.cell? ⟨gb295, 2, none⟩ = some (.int .i64 a1_2) ∧ w36.cell? ⟨gb295, 3, none⟩ = some (.int .i64 a1_3) := hS_
   refine norm_ (a' := ?_) ?_ ?_
   rotate_left
   ·simp only [putAll, Act.put, Xa, Xb, Xc]
    rfl
   refine one_ (i := 5) (N := none) #[Zt,Zt,Zt,Zt,Zt,Zt] rfl rfl (by kernel_rfl) (by decide) (fun K hK => ?_)
   have hs37 : w36.cell? ⟨gb305, 0, none⟩ = some (.int .i64 0) := (Xd BK305.out 0).trans rfl
   have hfs37 := Xj BK305.out 0
   have hns37_0 := NB294_305.out
   have hns37_1 := NB295_305.out
   have hns37_2 := NB296_305.out
   have hms37_0 := NB305_294.out
   have hms37_1 := NB305_295.out
   have hms37_2 := NB305_296.out
   have hs38 : w36.cell? ⟨gb305, 1, none⟩ = some (.int .i64 0) := (Xd BK305.out 1).trans rfl
   have hfs38 := Xj BK305.out 1
   have hns38_0 := NB294_305.out
   have hns38_1 := NB295_305.out
   have hns38_2 := NB296_305.out
   have hms38_0 := NB305_294.out
   have hms38_1 := NB305_295.out
   have hms38_2 := NB305_296.out
   have hs39 : w36.cell? ⟨gb305, 2, none⟩ = some (.int .i64 0) := (Xd BK305.out 2).trans rfl
   have hfs39 := Xj BK305.out 2
   have hns39_0 := NB294_305.out
   have hns39_1 := NB295_305.out
   have hns39_2 := NB296_305.out
   have hms39_0 := NB305_294.out
   have hms39_1 := NB305_295.out
   have hms39_2 := NB305_296.out
   have hs40 : w36.cell? ⟨gb305, 3, none⟩ = some (.int .i64 0) := (Xd BK305.out 3).trans rfl
   have hfs40 := Xj BK305.out 3
   have hns40_0 := NB294_305.out
   have hns40_1 := NB295_305.out
   have hns40_2 := NB296_305.out
   have hms40_0 := NB305_294.out
   have hms40_1 := NB305_295.out
   have hms40_2 := NB305_296.out
   refine skip_ (w1 := ?_) (by rfl) rfl ?_ ?_
   rotate_left
   ·go_simp
    rfl
   refine hK.out _ _ ⟨((Xe (p := ⟨gb305, _, none⟩) NB294_305.out _).trans (((Xe (p := ⟨gb305, _, none⟩) NB294_305.out _).trans (((Xe (p := ⟨gb305, _, none⟩) NB294_305.out _).trans (((Xe (p := ⟨gb305, _, none⟩) NB294_305.out _).trans (hHeld.1)))))))), ((Xe (p := ⟨gb305, _, none⟩) NB294_305.out _).trans (((Xe (p := ⟨gb305, _, none⟩) NB294_305.out _).trans (((Xe (p := ⟨gb305, _, none⟩) NB294_305.out _).trans (((Xe (p := ⟨gb305, _, none⟩) NB294_305.out _).trans (hHeld.2.1)))))))), ((Xe (p := ⟨gb305, _, none⟩) NB294_305.out _).trans (((Xe (p := ⟨gb305, _, none⟩) NB294_305.out _).trans (((Xe (p := ⟨gb305, _, none⟩) NB294_305.out _).trans (((Xe (p := ⟨gb305, _, none⟩) NB294_305.out _).trans (hHeld.2.2.1)))))))), ((Xe (p := ⟨gb305, _, none⟩) NB294_305.out _).trans (((Xe (p := ⟨gb305, _, none⟩) NB294_305.out _).trans (((Xe (p := ⟨gb305, _, none⟩) NB294_305.out _).trans (((Xe (p := ⟨gb305, _, none⟩) NB294_305.out _).trans (hHeld.2.2.2.1)))))))), ((Xe (p := ⟨gb305, _, none⟩) NB294_305.out _).trans (((Xe (p := ⟨gb305, _, none⟩) NB294_305.out _).trans (((Xe (p := ⟨gb305, _, none⟩) NB294_305.out _).trans (((Xe (p := ⟨gb305, _, none⟩) NB294_305.out _).trans (hHeld.2.2.2.2.1)))))))), ((Xe (p := ⟨gb305, _, none⟩) NB294_305.out _).trans (((Xe (p := ⟨gb305, _, none⟩) NB294_305.out _).trans (((Xe (p := ⟨gb305, _, none⟩) NB294_305.out _).trans (((Xe (p := ⟨gb305, _, none⟩) NB294_305.out _).trans (hHeld.2.2.2.2.2.1)))))))), ((Xe (p := ⟨gb305, _, none⟩) NB294_305.out _).trans (((Xe (p := ⟨gb305, _, none⟩) NB294_305.out _).trans (((Xe (p := ⟨gb305, _, none⟩) NB294_305.out _).trans (((Xe (p := ⟨gb305, _, none⟩) NB294_305.out _).trans (hHeld.2.2.2.2.2.2.1)))))))), ((Xe (p := ⟨gb305, _, none⟩) NB295_305.out _).trans (((Xe (p := ⟨gb305, _, none⟩) NB295_305.out _).trans (((Xe (p := ⟨gb305, _, none⟩) NB295_305.out _).trans (((Xe (p := ⟨gb305, _, none⟩) NB295_305.out _).trans (hHeld.2.2.2.2.2.2.2.1)))))))), ((Xe (p := ⟨gb305, _, none⟩) NB295_305.out _).trans (((Xe (p := ⟨gb305, _, none⟩) NB295_305.out _).trans (((Xe (p := ⟨gb305, _, none⟩) NB295_305.out _).trans (((Xe (p := ⟨gb305, _, none⟩) NB295_305.out _).trans (hHeld.2.2.2.2.2.2.2.2.1)))))))), ((Xe (p := ⟨gb305, _, none⟩) NB295_305.out _).trans (((Xe (p := ⟨gb305, _, none⟩) NB295_305.out _).trans (((Xe (p := ⟨gb305, _, none⟩) NB295_305.out _).trans (((Xe (p := ⟨gb305, _, none⟩) NB295_305.out _).trans (hHeld.2.2.2.2.2.2.2.2.2.1)))))))), ((Xe (p := ⟨gb305, _, none⟩) NB295_305.out _).trans (((Xe (p := ⟨gb305, _, none⟩) NB295_305.out _).trans (((Xe (p := ⟨gb305, _, none⟩) NB295_305.out _).trans (((Xe (p := ⟨gb305, _, none⟩) NB295_305.out _).trans (hHeld.2.2.2.2.2.2.2.2.2.2))))))))⟩ (fun hHeld => ?_)
   clear hK K
   refine done_ (by kernel_rfl) ?_
   have hnb41 := NB294_295.out
   have hnc41 := NB295_294.out
   have hnb42 := NB294_296.out
   have hnc42 := NB296_294.out
   have hnb43 := NB294_305.out
   have hnc43 := NB305_294.out
   have hcz44_0 : w36.cell? ⟨gb294, 0, none⟩ = some (.int .i64 a0_0) := (Xd BK294.out 0).trans rfl
   have hcz44_1 : w36.cell? ⟨gb294, 1, none⟩ = some (.int .i64 a0_1) := (Xd BK294.out 1).trans rfl
   have hcz44_2 : w36.cell? ⟨gb294, 2, none⟩ = some (.int .i64 a0_2) := (Xd BK294.out 2).trans rfl
   have hcz44_3 : w36.cell? ⟨gb294, 3, none⟩ = some (.int .i64 a0_3) := (Xd BK294.out 3).trans rfl
   have hcz44_4 : w36.cell? ⟨gb294, 4, none⟩ = some (.int .i64 a0_4) := (Xd BK294.out 4).trans rfl
   have hcz44_5 : w36.cell? ⟨gb294, 5, none⟩ = some (.int .i64 a0_5) := (Xd BK294.out 5).trans rfl
   have hcz44_6 : w36.cell? ⟨gb294, 6, none⟩ = some (.int .i64 a0_6) := (Xd BK294.out 6).trans rfl
   have hfz44_0 := Xj BK294.out 0
   have hfz44_1 := Xj BK294.out 1
   have hfz44_2 := Xj BK294.out 2
   have hfz44_3 := Xj BK294.out 3
   have hfz44_4 := Xj BK294.out 4
   have hfz44_5 := Xj BK294.out 5
   have hfz44_6 := Xj BK294.out 6
   try go_wp2_with (first | ((with_reducible refine gate_callee (f := 86) rfl ?_); refine goesL_ (some 13) rfl rfl Try.func86 (by kernel_rfl) rfl #[.agg #[.int .i64 a0_0, .int .i64 a0_1, .int .i64 a0_2, .int .i64 a0_3]] rfl (by (try simp only [List.map_toArray, List.map_cons, List.map_nil]); first | done | rfl | (simp only [List.length_drop, List.length_take]; rfl)) ?_; (with_reducible refine (box_Empty.calls a0_0 a0_1 a0_2 a0_3 Zf _ A5.out).mono ?_); rintro e w45 ⟨rfl, hb⟩; refine ⟨_, rfl, ?_⟩; have n0_ := Za (Xf (g := gb294) (o := .cells #[.int .i64 a0_0, .int .i64 a0_1, .int .i64 a0_2, .int .i64 a0_3, .int .i64 a0_4, .int .i64 a0_5, .int .i64 a0_6] 55 (0, 0)) (by (with_reducible repeat (first | refine Xg ?_ _ | refine Xi ?_ | refine Xh ?_ _)); refine blk_far ?_ NB294_305.out _; (with_reducible repeat (first | refine Xg ?_ _ | refine Xi ?_ | refine Xh ?_ _)); refine blk_far ?_ NB294_305.out _; (with_reducible repeat (first | refine Xg ?_ _ | refine Xi ?_ | refine Xh ?_ _)); refine blk_far ?_ NB294_305.out _; (with_reducible repeat (first | refine Xg ?_ _ | refine Xi ?_ | refine Xh ?_ _)); refine blk_far ?_ NB294_305.out _; (with_reducible repeat (first | refine Xg ?_ _ | refine Xi ?_ | refine Xh ?_ _)); exact BK294.out) hb); have n1_ := Za (Xf (g := gb295) (o := .cells #[.int .i64 a1_0, .int .i64 a1_1, .int .i64 a1_2, .int .i64 a1_3] 37 (0, 0)) (by (with_reducible repeat (first | refine Xg ?_ _ | refine Xi ?_ | refine Xh ?_ _)); refine blk_far ?_ NB295_305.out _; (with_reducible repeat (first | refine Xg ?_ _ | refine Xi ?_ | refine Xh ?_ _)); refine blk_far ?_ NB295_305.out _; (with_reducible repeat (first | refine Xg ?_ _ | refine Xi ?_ | refine Xh ?_ _)); refine blk_far ?_ NB295_305.out _; (with_reducible repeat (first | refine Xg ?_ _ | refine Xi ?_ | refine Xh ?_ _)); refine blk_far ?_ NB295_305.out _; (with_reducible repeat (first | refine Xg ?_ _ | refine Xi ?_ | refine Xh ?_ _)); exact BK295.out) hb); have n2_ := Za (Xf (g := gb296) (o := .cells #[.int .i64 0, .int .i64 0, .int .i64 0, .int .i64 0, .int .i64 0, .int .i64 0, .int .i64 0] 55 (0, 0)) (by (with_reducible repeat (first | refine Xg ?_ _ | refine Xi ?_ | refine Xh ?_ _)); refine blk_far ?_ NB296_305.out _; (with_reducible repeat (first | refine Xg ?_ _ | refine Xi ?_ | refine Xh ?_ _)); refine blk_far ?_ NB296_305.out _; (with_reducible repeat (first | refine Xg ?_ _ | refine Xi ?_ | refine Xh ?_ _)); refine blk_far ?_ NB296_305.out _; (with_reducible repeat (first | refine Xg ?_ _ | refine Xi ?_ | refine Xh ?_ _)); refine blk_far ?_ NB296_305.out _; (with_reducible repeat (first | refine Xg ?_ _ | refine Xi ?_ | refine Xh ?_ _)); exact BK296.out) hb); have n3_ := Za (Xf (g := gb305) (o := .cells #[.int .i64 t301, .int .i64 t302, .int .i64 t303, .int .i64 t304] 37 (0, 0)) (by (with_reducible repeat (first | refine Xg ?_ _ | refine Xi ?_ | refine Xh ?_ _)); refine blk_put (cs := #[.int .i64 t301, .int .i64 t302, .int .i64 t303, .int .i64 0]) ?_ 3 _ rfl; (with_reducible repeat (first | refine Xg ?_ _ | refine Xi ?_ | refine Xh ?_ _)); refine blk_put (cs := #[.int .i64 t301, .int .i64 t302, .int .i64 0, .int .i64 0]) ?_ 2 _ rfl; (with_reducible repeat (first | refine Xg ?_ _ | refine Xi ?_ | refine Xh ?_ _)); refine blk_put (cs := #[.int .i64 t301, .int .i64 0, .int .i64 0, .int .i64 0]) ?_ 1 _ rfl; (with_reducible repeat (first | refine Xg ?_ _ | refine Xi ?_ | refine Xh ?_ _)); refine blk_put (cs := #[.int .i64 0, .int .i64 0, .int .i64 0, .int .i64 0]) ?_ 0 _ rfl; (with_reducible repeat (first | refine Xg ?_ _ | refine Xi ?_ | refine Xh ?_ _)); exact BK305.out) hb); have n4_ := Za (Xl (hb_13 HB.out) hb); clear BK294; clear BK295; clear BK296; clear BK305; clear HB; have BK294 := n0_; have BK295 := n1_; have BK296 := n2_; have BK305 := n3_; have HB := n4_; clear n0_ n1_ n2_ n3_ n4_; (try clear hb); (try clear hb2); (try clear hk); (try clear hi); have hnb46 := NB305_295.out; have hnc46 := NB295_305.out; have hnb47 := NB305_296.out; have hnc47 := NB296_305.out; have hcz48_0 : w45.cell? ⟨gb305, 0, none⟩ = some (.int .i64 t301) := (Xd BK305.out 0).trans rfl; have hcz48_1 : w45.cell? ⟨gb305, 1, none⟩ = some (.int .i64 t302) := (Xd BK305.out 1).trans rfl; have hcz48_2 : w45.cell? ⟨gb305, 2, none⟩ = some (.int .i64 t303) := (Xd BK305.out 2).trans rfl; have hcz48_3 : w45.cell? ⟨gb305, 3, none⟩ = some (.int .i64 t304) := (Xd BK305.out 3).trans rfl; have hfz48_0 := Xj BK305.out 0; have hfz48_1 := Xj BK305.out 1; have hfz48_2 := Xj BK305.out 2; have hfz48_3 := Xj BK305.out 3) | (go_at_call 86; (with_reducible refine (box_Empty.calls t301 t302 t303 t304 Zt _ A27.out).mono ?_); rintro e w49 ⟨rfl, hb⟩; have n0_ := Za (Xf (g := gb294) (o := .cells #[.int .i64 a0_0, .int .i64 a0_1, .int .i64 a0_2, .int .i64 a0_3, .int .i64 a0_4, .int .i64 a0_5, .int .i64 a0_6] 55 (0, 0)) (bb_13 BK294.out) hb); have n1_ := Za (Xf (g := gb295) (o := .cells #[.int .i64 a1_0, .int .i64 a1_1, .int .i64 a1_2, .int .i64 a1_3] 37 (0, 0)) (bb_13 BK295.out) hb); have n2_ := Za (Xf (g := gb296) (o := .cells #[.int .i64 0, .int .i64 0, .int .i64 0, .int .i64 0, .int .i64 0, .int .i64 0, .int .i64 0] 55 (0, 0)) (bb_13 BK296.out) hb); have n3_ := Za (Xf (g := gb305) (o := .cells #[.int .i64 t301, .int .i64 t302, .int .i64 t303, .int .i64 t304] 37 (0, 0)) (bb_13 BK305.out) hb); have n4_ := Za (Xl (hb_13 HB.out) hb); clear BK294; clear BK295; clear BK296; clear BK305; clear HB; have BK294 := n0_; have BK295 := n1_; have BK296 := n2_; have BK305 := n3_; have HB := n4_; clear n0_ n1_ n2_ n3_ n4_; (try clear hb); (try clear hb2); (try clear hk); (try clear hi); have hnb50 := NB296_295.out; have hnc50 := NB295_296.out; have hcz51_0 : w49.cell? ⟨gb296, 0, none⟩ = some (.int .i64 0) := (Xd BK296.out 0).trans rfl; have hcz51_1 : w49.cell? ⟨gb296, 1, none⟩ = some (.int .i64 0) := (Xd BK296.out 1).trans rfl; have hcz51_2 : w49.cell? ⟨gb296, 2, none⟩ = some (.int .i64 0) := (Xd BK296.out 2).trans rfl; have hcz51_3 : w49.cell? ⟨gb296, 3, none⟩ = some (.int .i64 0) := (Xd BK296.out 3).trans rfl; have hcz51_4 : w49.cell? ⟨gb296, 4, none⟩ = some (.int .i64 0) := (Xd BK296.out 4).trans rfl; have hcz51_5 : w49.cell? ⟨gb296, 5, none⟩ = some (.int .i64 0) := (Xd BK296.out 5).trans rfl; have hcz51_6 : w49.cell? ⟨gb296, 6, none⟩ = some (.int .i64 0) := (Xd BK296.out 6).trans rfl; have hfz51_0 := Xj BK296.out 0; have hfz51_1 := Xj BK296.out 1; have hfz51_2 := Xj BK296.out 2; have hfz51_3 := Xj BK296.out 3; have hfz51_4 := Xj BK296.out 4; have hfz51_5 := Xj BK296.out 5; have hfz51_6 := Xj BK296.out 6))
   refine bodyPost_ret (results_ct rfl _ _ gb296 55 #[.int .i64 0, .int .i64 0, .int .i64 0, .int .i64 0, .int .i64 0, .int .i64 0, .int .i64 0] (0, 0) _ rfl (by (with_reducible repeat (first | refine Xg ?_ _ | refine Xi ?_ | refine Xh ?_ _)); refine blk_put (cs := #[.int .i64 0, .int .i64 0, .int .i64 0, .int .i64 0, .int .i64 0, .int .i64 0, .int .i64 0]) ?_ 6 _ rfl; (with_reducible repeat (first | refine Xg ?_ _ | refine Xi ?_ | refine Xh ?_ _)); refine blk_put (cs := #[.int .i64 0, .int .i64 0, .int .i64 0, .int .i64 0, .int .i64 0, .int .i64 0, .int .i64 0]) ?_ 5 _ rfl; (with_reducible repeat (first | refine Xg ?_ _ | refine Xi ?_ | refine Xh ?_ _)); refine blk_put (cs := #[.int .i64 0, .int .i64 0, .int .i64 0, .int .i64 0, .int .i64 0, .int .i64 0, .int .i64 0]) ?_ 4 _ rfl; (with_reducible repeat (first | refine Xg ?_ _ | refine Xi ?_ | refine Xh ?_ _)); refine blk_put (cs := #[.int .i64 0, .int .i64 0, .int .i64 0, .int .i64 0, .int .i64 0, .int .i64 0, .int .i64 0]) ?_ 3 _ rfl; (with_reducible repeat (first | refine Xg ?_ _ | refine Xi ?_ | refine Xh ?_ _)); refine blk_put (cs := #[.int .i64 0, .int .i64 0, .int .i64 0, .int .i64 0, .int .i64 0, .int .i64 0, .int .i64 0]) ?_ 2 _ rfl; (with_reducible repeat (first | refine Xg ?_ _ | refine Xi ?_ | refine Xh ?_ _)); refine blk_put (cs := #[.int .i64 0, .int .i64 0, .int .i64 0, .int .i64 0, .int .i64 0, .int .i64 0, .int .i64 0]) ?_ 1 _ rfl; (with_reducible repeat (first | refine Xg ?_ _ | refine Xi ?_ | refine Xh ?_ _)); refine blk_put (cs := #[.int .i64 0, .int .i64 0, .int .i64 0, .int .i64 0, .int .i64 0, .int .i64 0, .int .i64 0]) ?_ 0 _ rfl; (with_reducible repeat (first | refine Xg ?_ _ | refine Xi ?_ | refine Xh ?_ _)); exact BK296.out) Try.underlying55 rfl (by kernel_rfl)) rfl ?_
   exact ⟨by first | rfl | (simp [errW_none, errW_some] <;> rfl) | (simp [*, errW_none, errW_some] <;> rfl), by repeat (first | (with_reducible first | exact HB.out | apply below_alloc | apply pw_below_drewN | apply below_drew1 | refine below_set ?_ GE294.out | refine below_set ?_ GE295.out | refine below_set ?_ GE296.out | refine below_set ?_ GE305.out) | exact HB.out)⟩
  ·replace c28 := Bool.eq_false_iff.mpr c28
   subst c28
   have H1 : ((layer_part.f k a0_0 a0_1 a0_2 a0_3 a0_4 a0_5 a0_6 t301 t302 t303 t304).bind fun bt308 => (some (bt308.1, bt308.2.1, bt308.2.2.1, bt308.2.2.2.1, bt308.2.2.2.2.1, bt308.2.2.2.2.2.1, bt308.2.2.2.2.2.2, Zt))) = some (r1, r2, r3, r4, r5, r6, r7, r8) := by rw [if_neg (show ¬ (Zf = Zt) by decide)] at H; exact H
   clear H
   have H := H1
   clear H1
   replace H := Option.bind_eq_some_iff.mp H
   obtain ⟨⟨t308, t309, t310, t311, t312, t313, t314⟩, A520, H⟩ := H
   replace H : (some (t308, t309, t310, t311, t312, t313, t314, Zt)) = some (r1, r2, r3, r4, r5, r6, r7, r8) := H
   have A52 := Za A520
   clear A520
   simp only [Option.some.injEq, Prod.mk.injEq] at H
   obtain ⟨rfl, rfl, rfl, rfl, rfl, rfl, rfl, rfl⟩ := H
   go_enter Try.func64, Try.ntmps64
   try go_wp2_with (first | ((with_reducible refine gate_dst (N := 2) rfl ?_); refine box_event ?hg (N := 2) ?hd (cs := #[.int .i64 a0_0, .int .i64 a0_1, .int .i64 a0_2, .int .i64 a0_3, .int .i64 a0_4, .int .i64 a0_5, .int .i64 a0_6]) (t := 55) ?hr ?_; (case hd => rfl); (case hg => rfl); (case hr => first | (go_simp; done) | (go_simp; rfl)); intro gb294 hg w53 hbox hb; have n0_ := Za (Xl (hb_13 HB.out) hb); have n1_ := Za (hbox); have n2_ := Za ((by rw [hg]; exact (Xm (hb_13 HB.out)) : w.heap.size ≤ gb294)); have n3_ := Za ((by rw [hg]; exact (Xm (hb_13 HB.out)) : w.heap.size ≤ gb294)); clear HB; have HB := n0_; have BK294 := n1_; have GW294 := n2_; have GE294 := n3_; clear n0_ n1_ n2_ n3_; clear hb hbox hg) | ((with_reducible refine gate_dst (N := 3) rfl ?_); refine box_event ?hg (N := 3) ?hd (cs := #[.int .i64 a1_0, .int .i64 a1_1, .int .i64 a1_2, .int .i64 a1_3]) (t := 37) ?hr ?_; (case hd => rfl); (case hg => rfl); (case hr => first | (go_simp; done) | (go_simp; rfl)); intro gb295 hg w54 hbox hb; have n0_ := Za (Xf (g := gb294) (o := .cells #[.int .i64 a0_0, .int .i64 a0_1, .int .i64 a0_2, .int .i64 a0_3, .int .i64 a0_4, .int .i64 a0_5, .int .i64 a0_6] 55 (0, 0)) (bb_13 BK294.out) hb); have n1_ := Za (Xl (hb_13 HB.out) hb); have n2_ := Za (hbox); have n3_ := Za ((by rw [hg]; exact (Xm (hb_13 HB.out)) : w.heap.size ≤ gb295)); have n4_ := Za ((by rw [hg]; exact (Xm (hb_13 HB.out)) : w.heap.size ≤ gb295)); have n5_ := Za ((by rw [hg]; exact Nat.ne_of_lt (Xk (g := gb294) (o := .cells #[.int .i64 a0_0, .int .i64 a0_1, .int .i64 a0_2, .int .i64 a0_3, .int .i64 a0_4, .int .i64 a0_5, .int .i64 a0_6] 55 (0, 0)) (bb_13 BK294.out)) : gb294 ≠ gb295)); have n6_ := Za ((by rw [hg]; exact Nat.ne_of_gt (Xk (g := gb294) (o := .cells #[.int .i64 a0_0, .int .i64 a0_1, .int .i64 a0_2, .int .i64 a0_3, .int .i64 a0_4, .int .i64 a0_5, .int .i64 a0_6] 55 (0, 0)) (bb_13 BK294.out)) : gb295 ≠ gb294)); clear BK294; clear HB; have BK294 := n0_; have HB := n1_; have BK295 := n2_; have GW295 := n3_; have GE295 := n4_; have NB294_295 := n5_; have NB295_294 := n6_; clear n0_ n1_ n2_ n3_ n4_ n5_ n6_; clear hb hbox hg) | ((with_reducible refine gate_dst (N := 4) rfl ?_); refine box_event ?hg (N := 4) ?hd (cs := #[.int .i64 0, .int .i64 0, .int .i64 0, .int .i64 0, .int .i64 0, .int .i64 0, .int .i64 0]) (t := 55) ?hr ?_; (case hd => rfl); (case hg => rfl); (case hr => first | (go_simp; done) | (go_simp; rfl)); intro gb296 hg w55 hbox hb; have n0_ := Za (Xf (g := gb294) (o := .cells #[.int .i64 a0_0, .int .i64 a0_1, .int .i64 a0_2, .int .i64 a0_3, .int .i64 a0_4, .int .i64 a0_5, .int .i64 a0_6] 55 (0, 0)) (bb_13 BK294.out) hb); have n1_ := Za (Xf (g := gb295) (o := .cells #[.int .i64 a1_0, .int .i64 a1_1, .int .i64 a1_2, .int .i64 a1_3] 37 (0, 0)) (bb_13 BK295.out) hb); have n2_ := Za (Xl (hb_13 HB.out) hb); have n3_ := Za (hbox); have n4_ := Za ((by rw [hg]; exact (Xm (hb_13 HB.out)) : w.heap.size ≤ gb296)); have n5_ := Za ((by rw [hg]; exact (Xm (hb_13 HB.out)) : w.heap.size ≤ gb296)); have n6_ := Za ((by rw [hg]; exact Nat.ne_of_lt (Xk (g := gb294) (o := .cells #[.int .i64 a0_0, .int .i64 a0_1, .int .i64 a0_2, .int .i64 a0_3, .int .i64 a0_4, .int .i64 a0_5, .int .i64 a0_6] 55 (0, 0)) (bb_13 BK294.out)) : gb294 ≠ gb296)); have n7_ := Za ((by rw [hg]; exact Nat.ne_of_gt (Xk (g := gb294) (o := .cells #[.int .i64 a0_0, .int .i64 a0_1, .int .i64 a0_2, .int .i64 a0_3, .int .i64 a0_4, .int .i64 a0_5, .int .i64 a0_6] 55 (0, 0)) (bb_13 BK294.out)) : gb296 ≠ gb294)); have n8_ := Za ((by rw [hg]; exact Nat.ne_of_lt (Xk (g := gb295) (o := .cells #[.int .i64 a1_0, .int .i64 a1_1, .int .i64 a1_2, .int .i64 a1_3] 37 (0, 0)) (bb_13 BK295.out)) : gb295 ≠ gb296)); have n9_ := Za ((by rw [hg]; exact Nat.ne_of_gt (Xk (g := gb295) (o := .cells #[.int .i64 a1_0, .int .i64 a1_1, .int .i64 a1_2, .int .i64 a1_3] 37 (0, 0)) (bb_13 BK295.out)) : gb296 ≠ gb295)); clear BK294; clear BK295; clear HB; have BK294 := n0_; have BK295 := n1_; have HB := n2_; have BK296 := n3_; have GW296 := n4_; have GE296 := n5_; have NB294_296 := n6_; have NB296_294 := n7_; have NB295_296 := n8_; have NB296_295 := n9_; clear n0_ n1_ n2_ n3_ n4_ n5_ n6_ n7_ n8_ n9_; clear hb hbox hg))
   have n0_ := Za (Xi BK294.out)
   have n1_ := Za (Xi BK295.out)
   have n2_ := Za (Xi BK296.out)
   have n3_ := Za (below_drew1 HB.out)
   clear BK294
   clear BK295
   clear BK296
   clear HB
   have BK294 := n0_
   have BK295 := n1_
   have BK296 := n2_
   have HB := n3_
   clear n0_ n1_ n2_ n3_
   refine start_ (n := 6) (S := fun w' => w'.cell? ⟨gb294, 0, none⟩ = some (.int .i64 a0_0) ∧ w'.cell? ⟨gb294, 1, none⟩ = some (.int .i64 a0_1) ∧ w'.cell? ⟨gb294, 2, none⟩ = some (.int .i64 a0_2) ∧ w'.cell? ⟨gb294, 3, none⟩ = some (.int .i64 a0_3) ∧ w'.cell? ⟨gb294, 4, none⟩ = some (.int .i64 a0_4) ∧ w'.cell? ⟨gb294, 5, none⟩ = some (.int .i64 a0_5) ∧ w'.cell? ⟨gb294, 6, none⟩ = some (.int .i64 a0_6) ∧ w'.cell? ⟨gb295, 0, none⟩ = some (.int .i64 a1_0) ∧ w'.cell? ⟨gb295, 1, none⟩ = some (.int .i64 a1_1) ∧ w'.cell? ⟨gb295, 2, none⟩ = some (.int .i64 a1_2) ∧ w'.cell? ⟨gb295, 3, none⟩ = some (.int .i64 a1_3)) (ds := []) #[Zf,Zf,Zf,Zf,Zf,Zf] (by kernel_rfl) rfl rfl ⟨(Xd BK294.out 0).trans rfl, (Xd BK294.out 1).trans rfl, (Xd BK294.out 2).trans rfl, (Xd BK294.out 3).trans rfl, (Xd BK294.out 4).trans rfl, (Xd BK294.out 5).trans rfl, (Xd BK294.out 6).trans rfl, (Xd BK295.out 0).trans rfl, (Xd BK295.out 1).trans rfl, (Xd BK295.out 2).trans rfl, (Xd BK295.out 3).trans rfl⟩ (fun hHeld => ?_)
   generalize w55.drew = w56 at BK294 BK295 BK296 HB hHeld ⊢
   refine take_ (i := 0) (N := some 7) (v := ?_) (a' := ?_) #[Zt,Zf,Zf,Zf,Zf,Zf] rfl rfl (by kernel_rfl) (fun _ _ _ h => h) (Or.inl ⟨by rfl, ?_⟩) hHeld ?_ ?_
   rotate_left
   ·rintro w' ⟨s0, s1, s2, s3, s4, s5, s6, s7, s8, s9, s10⟩
    go_simp
    with_reducible rfl
   rotate_left
   ·simp only [Act.put, Xa, Xb, Xc, i64_w, i32_w]
    rfl
   refine take_ (i := 2) (N := some 9) (v := ?_) (a' := ?_) #[Zt,Zf,Zt,Zf,Zf,Zf] rfl rfl (by kernel_rfl) (fun _ _ _ h => h) (Or.inl ⟨by rfl, ?_⟩) hHeld ?_ ?_
   rotate_left
   ·rintro w' ⟨s0, s1, s2, s3, s4, s5, s6, s7, s8, s9, s10⟩
    go_simp
    with_reducible rfl
   rotate_left
   ·simp only [Act.put, Xa, Xb, Xc, i64_w, i32_w]
    rfl
   refine join_ (σ := Nat) 1 #[Zt,Zt,Zt,Zt,Zt,Zf] (fun s_ => [(8, .agg #[.int .i64 t297, .int .i64 t298, .int .i64 t299, .int .i64 t300]), (10, .agg #[.int .i64 t301, .int .i64 t302, .int .i64 t303, .int .i64 t304]), (6, .pointer (some ⟨s_, 0, none⟩))]) (fun s_ w' => (w'.cell? ⟨gb294, 0, none⟩ = some (.int .i64 a0_0) ∧ w'.cell? ⟨gb294, 1, none⟩ = some (.int .i64 a0_1) ∧ w'.cell? ⟨gb294, 2, none⟩ = some (.int .i64 a0_2) ∧ w'.cell? ⟨gb294, 3, none⟩ = some (.int .i64 a0_3) ∧ w'.cell? ⟨gb294, 4, none⟩ = some (.int .i64 a0_4) ∧ w'.cell? ⟨gb294, 5, none⟩ = some (.int .i64 a0_5) ∧ w'.cell? ⟨gb294, 6, none⟩ = some (.int .i64 a0_6) ∧ w'.cell? ⟨gb295, 0, none⟩ = some (.int .i64 a1_0) ∧ w'.cell? ⟨gb295, 1, none⟩ = some (.int .i64 a1_1) ∧ w'.cell? ⟨gb295, 2, none⟩ = some (.int .i64 a1_2) ∧ w'.cell? ⟨gb295, 3, none⟩ = some (.int .i64 a1_3)) ∧ (w'.heap[gb294]? = some (.cells #[.int .i64 a0_0, .int .i64 a0_1, .int .i64 a0_2, .int .i64 a0_3, .int .i64 a0_4, .int .i64 a0_5, .int .i64 a0_6] 55 (0, 0))) ∧ (w'.heap[gb295]? = some (.cells #[.int .i64 a1_0, .int .i64 a1_1, .int .i64 a1_2, .int .i64 a1_3] 37 (0, 0))) ∧ (w'.heap[gb296]? = some (.cells #[.int .i64 0, .int .i64 0, .int .i64 0, .int .i64 0, .int .i64 0, .int .i64 0, .int .i64 0] 55 (0, 0))) ∧ (w'.heap[s_]? = some (.cells #[.int .i64 0, .int .i64 0, .int .i64 0, .int .i64 0] 37 (0, 0))) ∧ (w.heap.size ≤ s_) ∧ (w.heap.size ≤ s_) ∧ (gb294 ≠ s_) ∧ (s_ ≠ gb294) ∧ (gb295 ≠ s_) ∧ (s_ ≠ gb295) ∧ (gb296 ≠ s_) ∧ (s_ ≠ gb296) ∧ (Below w.heap.size w w')) ?_ ?_
   rotate_left
   ·intro hCont
    refine two_ (i := 1) (j := 4) (Ni := some 8) (Nj := some 6) #[Zt,Zt,Zt,Zf,Zf,Zf] #[Zt,Zf,Zt,Zf,Zt,Zf] rfl rfl rfl rfl (by kernel_rfl) (by decide) (by decide) (fun K hK => ?_) (fun K hK => ?_)
    ·skip
     refine goes_ Try.func39 (by kernel_rfl) rfl #[.agg #[.int .i64 a0_0, .int .i64 a0_1, .int .i64 a0_2, .int .i64 a0_3, .int .i64 a0_4, .int .i64 a0_5, .int .i64 a0_6]] (by rfl) rfl rfl (by (try simp only [List.map_toArray, List.map_cons, List.map_nil]); first | done | rfl | (simp only [List.length_drop, List.length_take]; rfl)) ?_
     with_reducible refine (layer_Lies.calls k a0_0 a0_1 a0_2 a0_3 a0_4 a0_5 a0_6 t297 t298 t299 t300 _ A3.out).mono ?_
     rintro e w57 ⟨rfl, hb⟩
     refine ⟨_, rfl, ?_⟩
     have n0_ := Za (Xf (g := gb294) (o := .cells #[.int .i64 a0_0, .int .i64 a0_1, .int .i64 a0_2, .int .i64 a0_3, .int .i64 a0_4, .int .i64 a0_5, .int .i64 a0_6] 55 (0, 0)) (bb_13 BK294.out) hb)
     have n1_ := Za (Xf (g := gb295) (o := .cells #[.int .i64 a1_0, .int .i64 a1_1, .int .i64 a1_2, .int .i64 a1_3] 37 (0, 0)) (bb_13 BK295.out) hb)
     have n2_ := Za (Xf (g := gb296) (o := .cells #[.int .i64 0, .int .i64 0, .int .i64 0, .int .i64 0, .int .i64 0, .int .i64 0, .int .i64 0] 55 (0, 0)) (bb_13 BK296.out) hb)
     have n3_ := Za (Xl (hb_13 HB.out) hb)
     clear BK294
     clear BK295
     clear BK296
     clear HB
     have BK294 := n0_
     have BK295 := n1_
     have BK296 := n2_
     have HB := n3_
     clear n0_ n1_ n2_ n3_
     (try clear hb)
     (try clear hb2)
     (try clear hk)
     (try clear hi)
     refine hK.out _ _ ⟨(Xd BK294.out 0).trans rfl, (Xd BK294.out 1).trans rfl, (Xd BK294.out 2).trans rfl, (Xd BK294.out 3).trans rfl, (Xd BK294.out 4).trans rfl, (Xd BK294.out 5).trans rfl, (Xd BK294.out 6).trans rfl, (Xd BK295.out 0).trans rfl, (Xd BK295.out 1).trans rfl, (Xd BK295.out 2).trans rfl, (Xd BK295.out 3).trans rfl⟩ (fun hHeld => ?_)
     clear hK K
     refine norm_ (a' := ?_) ?_ ?_
     rotate_left
     ·show Act.put _ (some 8) _ = _
      simp only [Act.put, Xa, Xb, Xc, i64_w, i32_w]
      rfl
     refine two_ (i := 3) (j := 4) (Ni := some 10) (Nj := some 6) #[Zt,Zt,Zt,Zt,Zf,Zf] #[Zt,Zt,Zt,Zf,Zt,Zf] rfl rfl rfl rfl (by kernel_rfl) (by decide) (by decide) (fun K hK => ?_) (fun K hK => ?_)
     ·skip
      refine goes_ Try.func89 (by kernel_rfl) rfl #[.agg #[.int .i64 t297, .int .i64 t298, .int .i64 t299, .int .i64 t300], .agg #[.int .i64 a1_0, .int .i64 a1_1, .int .i64 a1_2, .int .i64 a1_3]] (by rfl) rfl rfl (by (try simp only [List.map_toArray, List.map_cons, List.map_nil]); first | done | rfl | (simp only [List.length_drop, List.length_take]; rfl)) ?_
      with_reducible refine (box_Meet.calls t297 t298 t299 t300 a1_0 a1_1 a1_2 a1_3 t301 t302 t303 t304 _ A4.out).mono ?_
      rintro e w58 ⟨rfl, hb⟩
      refine ⟨_, rfl, ?_⟩
      have n0_ := Za (Xf (g := gb294) (o := .cells #[.int .i64 a0_0, .int .i64 a0_1, .int .i64 a0_2, .int .i64 a0_3, .int .i64 a0_4, .int .i64 a0_5, .int .i64 a0_6] 55 (0, 0)) (bb_13 BK294.out) hb)
      have n1_ := Za (Xf (g := gb295) (o := .cells #[.int .i64 a1_0, .int .i64 a1_1, .int .i64 a1_2, .int .i64 a1_3] 37 (0, 0)) (bb_13 BK295.out) hb)
      have n2_ := Za (Xf (g := gb296) (o := .cells #[.int .i64 0, .int .i64 0, .int .i64 0, .int .i64 0, .int .i64 0, .int .i64 0, .int .i64 0] 55 (0, 0)) (bb_13 BK296.out) hb)
      have n3_ := Za (Xl (hb_13 HB.out) hb)
      clear BK294
      clear BK295
      clear BK296
      clear HB
      have BK294 := n0_
      have BK295 := n1_
      have BK296 := n2_
      have HB := n3_
      clear n0_ n1_ n2_ n3_
      (try clear hb)
      (try clear hb2)
      (try clear hk)
      (try clear hi)
      refine hK.out _ _ ⟨(Xd BK294.out 0).trans rfl, (Xd BK294.out 1).trans rfl, (Xd BK294.out 2).trans rfl, (Xd BK294.out 3).trans rfl, (Xd BK294.out 4).trans rfl, (Xd BK294.out 5).trans rfl, (Xd BK294.out 6).trans rfl, (Xd BK295.out 0).trans rfl, (Xd BK295.out 1).trans rfl, (Xd BK295.out 2).trans rfl, (Xd BK295.out 3).trans rfl⟩ (fun hHeld => ?_)
      clear hK K
      refine norm_ (a' := ?_) ?_ ?_
      rotate_left
      ·show Act.put _ (some 10) _ = _
       simp only [Act.put, Xa, Xb, Xc, i64_w, i32_w]
       rfl
      refine one_ (i := 4) (N := some 6) #[Zt,Zt,Zt,Zt,Zt,Zf] rfl rfl (by kernel_rfl) (by decide) (fun K hK => ?_)
      refine box_step ?hg (N := 6) ?hd (cs := #[.int .i64 0, .int .i64 0, .int .i64 0, .int .i64 0]) (t := 37) ?hr ?_; (case hd => rfl); (case hg => rfl); (case hr => first | (go_simp; done) | (go_simp; rfl))
      intro gb305 hg w59 hbox hb
      have n0_ := Za (Xf (g := gb294) (o := .cells #[.int .i64 a0_0, .int .i64 a0_1, .int .i64 a0_2, .int .i64 a0_3, .int .i64 a0_4, .int .i64 a0_5, .int .i64 a0_6] 55 (0, 0)) (bb_13 BK294.out) hb)
      have n1_ := Za (Xf (g := gb295) (o := .cells #[.int .i64 a1_0, .int .i64 a1_1, .int .i64 a1_2, .int .i64 a1_3] 37 (0, 0)) (bb_13 BK295.out) hb)
      have n2_ := Za (Xf (g := gb296) (o := .cells #[.int .i64 0, .int .i64 0, .int .i64 0, .int .i64 0, .int .i64 0, .int .i64 0, .int .i64 0] 55 (0, 0)) (bb_13 BK296.out) hb)
      have n3_ := Za (Xl (hb_13 HB.out) hb)
      have n4_ := Za (hbox)
      have n5_ := Za ((by rw [hg]; exact (Xm (hb_13 HB.out)) : w.heap.size ≤ gb305))
      have n6_ := Za ((by rw [hg]; exact (Xm (hb_13 HB.out)) : w.heap.size ≤ gb305))
      have n7_ := Za ((by rw [hg]; exact Nat.ne_of_lt (Xk (g := gb294) (o := .cells #[.int .i64 a0_0, .int .i64 a0_1, .int .i64 a0_2, .int .i64 a0_3, .int .i64 a0_4, .int .i64 a0_5, .int .i64 a0_6] 55 (0, 0)) (bb_13 BK294.out)) : gb294 ≠ gb305))
      have n8_ := Za ((by rw [hg]; exact Nat.ne_of_gt (Xk (g := gb294) (o := .cells #[.int .i64 a0_0, .int .i64 a0_1, .int .i64 a0_2, .int .i64 a0_3, .int .i64 a0_4, .int .i64 a0_5, .int .i64 a0_6] 55 (0, 0)) (bb_13 BK294.out)) : gb305 ≠ gb294))
      have n9_ := Za ((by rw [hg]; exact Nat.ne_of_lt (Xk (g := gb295) (o := .cells #[.int .i64 a1_0, .int .i64 a1_1, .int .i64 a1_2, .int .i64 a1_3] 37 (0, 0)) (bb_13 BK295.out)) : gb295 ≠ gb305))
      have n10_ := Za ((by rw [hg]; exact Nat.ne_of_gt (Xk (g := gb295) (o := .cells #[.int .i64 a1_0, .int .i64 a1_1, .int .i64 a1_2, .int .i64 a1_3] 37 (0, 0)) (bb_13 BK295.out)) : gb305 ≠ gb295))
      have n11_ := Za ((by rw [hg]; exact Nat.ne_of_lt (Xk (g := gb296) (o := .cells #[.int .i64 0, .int .i64 0, .int .i64 0, .int .i64 0, .int .i64 0, .int .i64 0, .int .i64 0] 55 (0, 0)) (bb_13 BK296.out)) : gb296 ≠ gb305))
      have n12_ := Za ((by rw [hg]; exact Nat.ne_of_gt (Xk (g := gb296) (o := .cells #[.int .i64 0, .int .i64 0, .int .i64 0, .int .i64 0, .int .i64 0, .int .i64 0, .int .i64 0] 55 (0, 0)) (bb_13 BK296.out)) : gb305 ≠ gb296))
      clear BK294
      clear BK295
      clear BK296
      clear HB
      have BK294 := n0_
      have BK295 := n1_
      have BK296 := n2_
      have HB := n3_
      have BK305 := n4_
      have GW305 := n5_
      have GE305 := n6_
      have NB294_305 := n7_
      have NB305_294 := n8_
      have NB295_305 := n9_
      have NB305_295 := n10_
      have NB296_305 := n11_
      have NB305_296 := n12_
      clear n0_ n1_ n2_ n3_ n4_ n5_ n6_ n7_ n8_ n9_ n10_ n11_ n12_
      clear hb hbox hg
      refine hK.out _ _ ⟨(Xd BK294.out 0).trans rfl, (Xd BK294.out 1).trans rfl, (Xd BK294.out 2).trans rfl, (Xd BK294.out 3).trans rfl, (Xd BK294.out 4).trans rfl, (Xd BK294.out 5).trans rfl, (Xd BK294.out 6).trans rfl, (Xd BK295.out 0).trans rfl, (Xd BK295.out 1).trans rfl, (Xd BK295.out 2).trans rfl, (Xd BK295.out 3).trans rfl⟩ (fun hHeld => ?_)
      clear hK K
      refine norm_ (a' := ?_) ?_ ?_
      rotate_left
      ·show Act.put _ (some 6) _ = _
       simp only [Act.put, Xa, Xb, Xc, i64_w, i32_w]
       rfl
      exact norm_ (by simp only [putAll, Act.put, Xa, Xb, Xc]) (hCont (gb305) _ ⟨hHeld, (bb_13 BK294.out), (bb_13 BK295.out), (bb_13 BK296.out), (bb_13 BK305.out), GW305.out, GE305.out, NB294_305.out, NB305_294.out, NB295_305.out, NB305_295.out, NB296_305.out, NB305_296.out, (hb_13 HB.out)⟩)
     ·skip
      refine box_step ?hg (N := 6) ?hd (cs := #[.int .i64 0, .int .i64 0, .int .i64 0, .int .i64 0]) (t := 37) ?hr ?_; (case hd => rfl); (case hg => rfl); (case hr => first | (go_simp; done) | (go_simp; rfl))
      intro gb305 hg w58 hbox hb
      have n0_ := Za (Xf (g := gb294) (o := .cells #[.int .i64 a0_0, .int .i64 a0_1, .int .i64 a0_2, .int .i64 a0_3, .int .i64 a0_4, .int .i64 a0_5, .int .i64 a0_6] 55 (0, 0)) (bb_13 BK294.out) hb)
      have n1_ := Za (Xf (g := gb295) (o := .cells #[.int .i64 a1_0, .int .i64 a1_1, .int .i64 a1_2, .int .i64 a1_3] 37 (0, 0)) (bb_13 BK295.out) hb)
      have n2_ := Za (Xf (g := gb296) (o := .cells #[.int .i64 0, .int .i64 0, .int .i64 0, .int .i64 0, .int .i64 0, .int .i64 0, .int .i64 0] 55 (0, 0)) (bb_13 BK296.out) hb)
      have n3_ := Za (Xl (hb_13 HB.out) hb)
      have n4_ := Za (hbox)
      have n5_ := Za ((by rw [hg]; exact (Xm (hb_13 HB.out)) : w.heap.size ≤ gb305))
      have n6_ := Za ((by rw [hg]; exact (Xm (hb_13 HB.out)) : w.heap.size ≤ gb305))
      have n7_ := Za ((by rw [hg]; exact Nat.ne_of_lt (Xk (g := gb294) (o := .cells #[.int .i64 a0_0, .int .i64 a0_1, .int .i64 a0_2, .int .i64 a0_3, .int .i64 a0_4, .int .i64 a0_5, .int .i64 a0_6] 55 (0, 0)) (bb_13 BK294.out)) : gb294 ≠ gb305))
      have n8_ := Za ((by rw [hg]; exact Nat.ne_of_gt (Xk (g := gb294) (o := .cells #[.int .i64 a0_0, .int .i64 a0_1, .int .i64 a0_2, .int .i64 a0_3, .int .i64 a0_4, .int .i64 a0_5, .int .i64 a0_6] 55 (0, 0)) (bb_13 BK294.out)) : gb305 ≠ gb294))
      have n9_ := Za ((by rw [hg]; exact Nat.ne_of_lt (Xk (g := gb295) (o := .cells #[.int .i64 a1_0, .int .i64 a1_1, .int .i64 a1_2, .int .i64 a1_3] 37 (0, 0)) (bb_13 BK295.out)) : gb295 ≠ gb305))
      have n10_ := Za ((by rw [hg]; exact Nat.ne_of_gt (Xk (g := gb295) (o := .cells #[.int .i64 a1_0, .int .i64 a1_1, .int .i64 a1_2, .int .i64 a1_3] 37 (0, 0)) (bb_13 BK295.out)) : gb305 ≠ gb295))
      have n11_ := Za ((by rw [hg]; exact Nat.ne_of_lt (Xk (g := gb296) (o := .cells #[.int .i64 0, .int .i64 0, .int .i64 0, .int .i64 0, .int .i64 0, .int .i64 0, .int .i64 0] 55 (0, 0)) (bb_13 BK296.out)) : gb296 ≠ gb305))
      have n12_ := Za ((by rw [hg]; exact Nat.ne_of_gt (Xk (g := gb296) (o := .cells #[.int .i64 0, .int .i64 0, .int .i64 0, .int .i64 0, .int .i64 0, .int .i64 0, .int .i64 0] 55 (0, 0)) (bb_13 BK296.out)) : gb305 ≠ gb296))
      clear BK294
      clear BK295
      clear BK296
      clear HB
      have BK294 := n0_
      have BK295 := n1_
      have BK296 := n2_
      have HB := n3_
      have BK305 := n4_
      have GW305 := n5_
      have GE305 := n6_
      have NB294_305 := n7_
      have NB305_294 := n8_
      have NB295_305 := n9_
      have NB305_295 := n10_
      have NB296_305 := n11_
      have NB305_296 := n12_
      clear n0_ n1_ n2_ n3_ n4_ n5_ n6_ n7_ n8_ n9_ n10_ n11_ n12_
      clear hb hbox hg
      refine hK.out _ _ ⟨(Xd BK294.out 0).trans rfl, (Xd BK294.out 1).trans rfl, (Xd BK294.out 2).trans rfl, (Xd BK294.out 3).trans rfl, (Xd BK294.out 4).trans rfl, (Xd BK294.out 5).trans rfl, (Xd BK294.out 6).trans rfl, (Xd BK295.out 0).trans rfl, (Xd BK295.out 1).trans rfl, (Xd BK295.out 2).trans rfl, (Xd BK295.out 3).trans rfl⟩ (fun hHeld => ?_)
      clear hK K
      refine norm_ (a' := ?_) ?_ ?_
      rotate_left
      ·show Act.put _ (some 6) _ = _
       simp only [Act.put, Xa, Xb, Xc, i64_w, i32_w]
       rfl
      refine one_ (i := 3) (N := some 10) #[Zt,Zt,Zt,Zt,Zt,Zf] rfl rfl (by kernel_rfl) (by decide) (fun K hK => ?_)
      refine goes_ Try.func89 (by kernel_rfl) rfl #[.agg #[.int .i64 t297, .int .i64 t298, .int .i64 t299, .int .i64 t300], .agg #[.int .i64 a1_0, .int .i64 a1_1, .int .i64 a1_2, .int .i64 a1_3]] (by rfl) rfl rfl (by (try simp only [List.map_toArray, List.map_cons, List.map_nil]); first | done | rfl | (simp only [List.length_drop, List.length_take]; rfl)) ?_
      with_reducible refine (box_Meet.calls t297 t298 t299 t300 a1_0 a1_1 a1_2 a1_3 t301 t302 t303 t304 _ A4.out).mono ?_
      rintro e w59 ⟨rfl, hb⟩
      refine ⟨_, rfl, ?_⟩
      have n0_ := Za (Xf (g := gb294) (o := .cells #[.int .i64 a0_0, .int .i64 a0_1, .int .i64 a0_2, .int .i64 a0_3, .int .i64 a0_4, .int .i64 a0_5, .int .i64 a0_6] 55 (0, 0)) (bb_13 BK294.out) hb)
      have n1_ := Za (Xf (g := gb295) (o := .cells #[.int .i64 a1_0, .int .i64 a1_1, .int .i64 a1_2, .int .i64 a1_3] 37 (0, 0)) (bb_13 BK295.out) hb)
      have n2_ := Za (Xf (g := gb296) (o := .cells #[.int .i64 0, .int .i64 0, .int .i64 0, .int .i64 0, .int .i64 0, .int .i64 0, .int .i64 0] 55 (0, 0)) (bb_13 BK296.out) hb)
      have n3_ := Za (Xf (g := gb305) (o := .cells #[.int .i64 0, .int .i64 0, .int .i64 0, .int .i64 0] 37 (0, 0)) (bb_13 BK305.out) hb)
      have n4_ := Za (Xl (hb_13 HB.out) hb)
      clear BK294
      clear BK295
      clear BK296
      clear BK305
      clear HB
      have BK294 := n0_
      have BK295 := n1_
      have BK296 := n2_
      have BK305 := n3_
      have HB := n4_
      clear n0_ n1_ n2_ n3_ n4_
      (try clear hb)
      (try clear hb2)
      (try clear hk)
      (try clear hi)
      refine hK.out _ _ ⟨(Xd BK294.out 0).trans rfl, (Xd BK294.out 1).trans rfl, (Xd BK294.out 2).trans rfl, (Xd BK294.out 3).trans rfl, (Xd BK294.out 4).trans rfl, (Xd BK294.out 5).trans rfl, (Xd BK294.out 6).trans rfl, (Xd BK295.out 0).trans rfl, (Xd BK295.out 1).trans rfl, (Xd BK295.out 2).trans rfl, (Xd BK295.out 3).trans rfl⟩ (fun hHeld => ?_)
      clear hK K
      refine norm_ (a' := ?_) ?_ ?_
      rotate_left
      ·show Act.put _ (some 10) _ = _
       simp only [Act.put, Xa, Xb, Xc, i64_w, i32_w]
       rfl
      exact norm_ (by simp only [putAll, Act.put, Xa, Xb, Xc]) (hCont (gb305) _ ⟨hHeld, (bb_13 BK294.out), (bb_13 BK295.out), (bb_13 BK296.out), (bb_13 BK305.out), GW305.out, GE305.out, NB294_305.out, NB305_294.out, NB295_305.out, NB305_295.out, NB296_305.out, NB305_296.out, (hb_13 HB.out)⟩)
    ·skip
     refine box_step ?hg (N := 6) ?hd (cs := #[.int .i64 0, .int .i64 0, .int .i64 0, .int .i64 0]) (t := 37) ?hr ?_; (case hd => rfl); (case hg => rfl); (case hr => first | (go_simp; done) | (go_simp; rfl))
     intro gb305 hg w57 hbox hb
     have n0_ := Za (Xf (g := gb294) (o := .cells #[.int .i64 a0_0, .int .i64 a0_1, .int .i64 a0_2, .int .i64 a0_3, .int .i64 a0_4, .int .i64 a0_5, .int .i64 a0_6] 55 (0, 0)) (bb_13 BK294.out) hb)
     have n1_ := Za (Xf (g := gb295) (o := .cells #[.int .i64 a1_0, .int .i64 a1_1, .int .i64 a1_2, .int .i64 a1_3] 37 (0, 0)) (bb_13 BK295.out) hb)
     have n2_ := Za (Xf (g := gb296) (o := .cells #[.int .i64 0, .int .i64 0, .int .i64 0, .int .i64 0, .int .i64 0, .int .i64 0, .int .i64 0] 55 (0, 0)) (bb_13 BK296.out) hb)
     have n3_ := Za (Xl (hb_13 HB.out) hb)
     have n4_ := Za (hbox)
     have n5_ := Za ((by rw [hg]; exact (Xm (hb_13 HB.out)) : w.heap.size ≤ gb305))
     have n6_ := Za ((by rw [hg]; exact (Xm (hb_13 HB.out)) : w.heap.size ≤ gb305))
     have n7_ := Za ((by rw [hg]; exact Nat.ne_of_lt (Xk (g := gb294) (o := .cells #[.int .i64 a0_0, .int .i64 a0_1, .int .i64 a0_2, .int .i64 a0_3, .int .i64 a0_4, .int .i64 a0_5, .int .i64 a0_6] 55 (0, 0)) (bb_13 BK294.out)) : gb294 ≠ gb305))
     have n8_ := Za ((by rw [hg]; exact Nat.ne_of_gt (Xk (g := gb294) (o := .cells #[.int .i64 a0_0, .int .i64 a0_1, .int .i64 a0_2, .int .i64 a0_3, .int .i64 a0_4, .int .i64 a0_5, .int .i64 a0_6] 55 (0, 0)) (bb_13 BK294.out)) : gb305 ≠ gb294))
     have n9_ := Za ((by rw [hg]; exact Nat.ne_of_lt (Xk (g := gb295) (o := .cells #[.int .i64 a1_0, .int .i64 a1_1, .int .i64 a1_2, .int .i64 a1_3] 37 (0, 0)) (bb_13 BK295.out)) : gb295 ≠ gb305))
     have n10_ := Za ((by rw [hg]; exact Nat.ne_of_gt (Xk (g := gb295) (o := .cells #[.int .i64 a1_0, .int .i64 a1_1, .int .i64 a1_2, .int .i64 a1_3] 37 (0, 0)) (bb_13 BK295.out)) : gb305 ≠ gb295))
     have n11_ := Za ((by rw [hg]; exact Nat.ne_of_lt (Xk (g := gb296) (o := .cells #[.int .i64 0, .int .i64 0, .int .i64 0, .int .i64 0, .int .i64 0, .int .i64 0, .int .i64 0] 55 (0, 0)) (bb_13 BK296.out)) : gb296 ≠ gb305))
     have n12_ := Za ((by rw [hg]; exact Nat.ne_of_gt (Xk (g := gb296) (o := .cells #[.int .i64 0, .int .i64 0, .int .i64 0, .int .i64 0, .int .i64 0, .int .i64 0, .int .i64 0] 55 (0, 0)) (bb_13 BK296.out)) : gb305 ≠ gb296))
     clear BK294
     clear BK295
     clear BK296
     clear HB
     have BK294 := n0_
     have BK295 := n1_
     have BK296 := n2_
     have HB := n3_
     have BK305 := n4_
     have GW305 := n5_
     have GE305 := n6_
     have NB294_305 := n7_
     have NB305_294 := n8_
     have NB295_305 := n9_
     have NB305_295 := n10_
     have NB296_305 := n11_
     have NB305_296 := n12_
     clear n0_ n1_ n2_ n3_ n4_ n5_ n6_ n7_ n8_ n9_ n10_ n11_ n12_
     clear hb hbox hg
     refine hK.out _ _ ⟨(Xd BK294.out 0).trans rfl, (Xd BK294.out 1).trans rfl, (Xd BK294.out 2).trans rfl, (Xd BK294.out 3).trans rfl, (Xd BK294.out 4).trans rfl, (Xd BK294.out 5).trans rfl, (Xd BK294.out 6).trans rfl, (Xd BK295.out 0).trans rfl, (Xd BK295.out 1).trans rfl, (Xd BK295.out 2).trans rfl, (Xd BK295.out 3).trans rfl⟩ (fun hHeld => ?_)
     clear hK K
     refine norm_ (a' := ?_) ?_ ?_
     rotate_left
     ·show Act.put _ (some 6) _ = _
      simp only [Act.put, Xa, Xb, Xc, i64_w, i32_w]
      rfl
     refine one_ (i := 1) (N := some 8) #[Zt,Zt,Zt,Zf,Zt,Zf] rfl rfl (by kernel_rfl) (by decide) (fun K hK => ?_)
     refine goes_ Try.func39 (by kernel_rfl) rfl #[.agg #[.int .i64 a0_0, .int .i64 a0_1, .int .i64 a0_2, .int .i64 a0_3, .int .i64 a0_4, .int .i64 a0_5, .int .i64 a0_6]] (by rfl) rfl rfl (by (try simp only [List.map_toArray, List.map_cons, List.map_nil]); first | done | rfl | (simp only [List.length_drop, List.length_take]; rfl)) ?_
     with_reducible refine (layer_Lies.calls k a0_0 a0_1 a0_2 a0_3 a0_4 a0_5 a0_6 t297 t298 t299 t300 _ A3.out).mono ?_
     rintro e w58 ⟨rfl, hb⟩
     refine ⟨_, rfl, ?_⟩
     have n0_ := Za (Xf (g := gb294) (o := .cells #[.int .i64 a0_0, .int .i64 a0_1, .int .i64 a0_2, .int .i64 a0_3, .int .i64 a0_4, .int .i64 a0_5, .int .i64 a0_6] 55 (0, 0)) (bb_13 BK294.out) hb)
     have n1_ := Za (Xf (g := gb295) (o := .cells #[.int .i64 a1_0, .int .i64 a1_1, .int .i64 a1_2, .int .i64 a1_3] 37 (0, 0)) (bb_13 BK295.out) hb)
     have n2_ := Za (Xf (g := gb296) (o := .cells #[.int .i64 0, .int .i64 0, .int .i64 0, .int .i64 0, .int .i64 0, .int .i64 0, .int .i64 0] 55 (0, 0)) (bb_13 BK296.out) hb)
     have n3_ := Za (Xf (g := gb305) (o := .cells #[.int .i64 0, .int .i64 0, .int .i64 0, .int .i64 0] 37 (0, 0)) (bb_13 BK305.out) hb)
     have n4_ := Za (Xl (hb_13 HB.out) hb)
     clear BK294
     clear BK295
     clear BK296
     clear BK305
     clear HB
     have BK294 := n0_
     have BK295 := n1_
     have BK296 := n2_
     have BK305 := n3_
     have HB := n4_
     clear n0_ n1_ n2_ n3_ n4_
     (try clear hb)
     (try clear hb2)
     (try clear hk)
     (try clear hi)
     refine hK.out _ _ ⟨(Xd BK294.out 0).trans rfl, (Xd BK294.out 1).trans rfl, (Xd BK294.out 2).trans rfl, (Xd BK294.out 3).trans rfl, (Xd BK294.out 4).trans rfl, (Xd BK294.out 5).trans rfl, (Xd BK294.out 6).trans rfl, (Xd BK295.out 0).trans rfl, (Xd BK295.out 1).trans rfl, (Xd BK295.out 2).trans rfl, (Xd BK295.out 3).trans rfl⟩ (fun hHeld => ?_)
     clear hK K
     refine norm_ (a' := ?_) ?_ ?_
     rotate_left
     ·show Act.put _ (some 8) _ = _
      simp only [Act.put, Xa, Xb, Xc, i64_w, i32_w]
      rfl
     refine one_ (i := 3) (N := some 10) #[Zt,Zt,Zt,Zt,Zt,Zf] rfl rfl (by kernel_rfl) (by decide) (fun K hK => ?_)
     refine goes_ Try.func89 (by kernel_rfl) rfl #[.agg #[.int .i64 t297, .int .i64 t298, .int .i64 t299, .int .i64 t300], .agg #[.int .i64 a1_0, .int .i64 a1_1, .int .i64 a1_2, .int .i64 a1_3]] (by rfl) rfl rfl (by (try simp only [List.map_toArray, List.map_cons, List.map_nil]); first | done | rfl | (simp only [List.length_drop, List.length_take]; rfl)) ?_
     with_reducible refine (box_Meet.calls t297 t298 t299 t300 a1_0 a1_1 a1_2 a1_3 t301 t302 t303 t304 _ A4.out).mono ?_
     rintro e w59 ⟨rfl, hb⟩
     refine ⟨_, rfl, ?_⟩
     have n0_ := Za (Xf (g := gb294) (o := .cells #[.int .i64 a0_0, .int .i64 a0_1, .int .i64 a0_2, .int .i64 a0_3, .int .i64 a0_4, .int .i64 a0_5, .int .i64 a0_6] 55 (0, 0)) (bb_13 BK294.out) hb)
     have n1_ := Za (Xf (g := gb295) (o := .cells #[.int .i64 a1_0, .int .i64 a1_1, .int .i64 a1_2, .int .i64 a1_3] 37 (0, 0)) (bb_13 BK295.out) hb)
     have n2_ := Za (Xf (g := gb296) (o := .cells #[.int .i64 0, .int .i64 0, .int .i64 0, .int .i64 0, .int .i64 0, .int .i64 0, .int .i64 0] 55 (0, 0)) (bb_13 BK296.out) hb)
     have n3_ := Za (Xf (g := gb305) (o := .cells #[.int .i64 0, .int .i64 0, .int .i64 0, .int .i64 0] 37 (0, 0)) (bb_13 BK305.out) hb)
     have n4_ := Za (Xl (hb_13 HB.out) hb)
     clear BK294
     clear BK295
     clear BK296
     clear BK305
     clear HB
     have BK294 := n0_
     have BK295 := n1_
     have BK296 := n2_
     have BK305 := n3_
     have HB := n4_
     clear n0_ n1_ n2_ n3_ n4_
     (try clear hb)
     (try clear hb2)
     (try clear hk)
     (try clear hi)
     refine hK.out _ _ ⟨(Xd BK294.out 0).trans rfl, (Xd BK294.out 1).trans rfl, (Xd BK294.out 2).trans rfl, (Xd BK294.out 3).trans rfl, (Xd BK294.out 4).trans rfl, (Xd BK294.out 5).trans rfl, (Xd BK294.out 6).trans rfl, (Xd BK295.out 0).trans rfl, (Xd BK295.out 1).trans rfl, (Xd BK295.out 2).trans rfl, (Xd BK295.out 3).trans rfl⟩ (fun hHeld => ?_)
     clear hK K
     refine norm_ (a' := ?_) ?_ ?_
     rotate_left
     ·show Act.put _ (some 10) _ = _
      simp only [Act.put, Xa, Xb, Xc, i64_w, i32_w]
      rfl
     exact norm_ (by simp only [putAll, Act.put, Xa, Xb, Xc]) (hCont (gb305) _ ⟨hHeld, (bb_13 BK294.out), (bb_13 BK295.out), (bb_13 BK296.out), (bb_13 BK305.out), GW305.out, GE305.out, NB294_305.out, NB305_294.out, NB295_305.out, NB305_295.out, NB296_305.out, NB305_296.out, (hb_13 HB.out)⟩)
   rintro gb305 w60 ⟨hS_, h0_, h1_, h2_, h3_, h4_, h5_, h6_, h7_, h8_, h9_, h10_, h11_, h12_⟩
   have n0_ : Aside0 (w60.heap[gb294]? = some (.cells #[.int .i64 a0_0, .int .i64 a0_1, .int .i64 a0_2, .int .i64 a0_3, .int .i64 a0_4, .int .i64 a0_5, .int .i64 a0_6] 55 (0, 0))) := ⟨h0_⟩
   have n1_ : Aside0 (w60.heap[gb295]? = some (.cells #[.int .i64 a1_0, .int .i64 a1_1, .int .i64 a1_2, .int .i64 a1_3] 37 (0, 0))) := ⟨h1_⟩
   have n2_ : Aside0 (w60.heap[gb296]? = some (.cells #[.int .i64 0, .int .i64 0, .int .i64 0, .int .i64 0, .int .i64 0, .int .i64 0, .int .i64 0] 55 (0, 0))) := ⟨h2_⟩
   have n3_ : Aside0 (w60.heap[gb305]? = some (.cells #[.int .i64 0, .int .i64 0, .int .i64 0, .int .i64 0] 37 (0, 0))) := ⟨h3_⟩
   have n4_ : Aside0 (w.heap.size ≤ gb305) := ⟨h4_⟩
   have n5_ : Aside0 (w.heap.size ≤ gb305) := ⟨h5_⟩
   have n6_ : Aside0 (gb294 ≠ gb305) := ⟨h6_⟩
   have n7_ : Aside0 (gb305 ≠ gb294) := ⟨h7_⟩
   have n8_ : Aside0 (gb295 ≠ gb305) := ⟨h8_⟩
   have n9_ : Aside0 (gb305 ≠ gb295) := ⟨h9_⟩
   have n10_ : Aside0 (gb296 ≠ gb305) := ⟨h10_⟩
   have n11_ : Aside0 (gb305 ≠ gb296) := ⟨h11_⟩
   have n12_ : Aside0 (Below w.heap.size w w60) := ⟨h12_⟩
   clear BK294
   clear BK295
   clear BK296
   clear HB
   clear h0_ h1_ h2_ h3_ h4_ h5_ h6_ h7_ h8_ h9_ h10_ h11_ h12_
   have BK294 := n0_
   have BK295 := n1_
   have BK296 := n2_
   have BK305 := n3_
   have GW305 := n4_
   have GE305 := n5_
   have NB294_305 := n6_
   have NB305_294 := n7_
   have NB295_305 := n8_
   have NB305_295 := n9_
   have NB296_305 := n10_
   have NB305_296 := n11_
   have HB := n12_
   clear n0_ n1_ n2_ n3_ n4_ n5_ n6_ n7_ n8_ n9_ n10_ n11_ n12_
   have hHeld : w60.cell? ⟨gb294, 0, none⟩ = some (.int .i64 a0_0) ∧ w60.cell? ⟨gb294, 1, none⟩ = some (.int .i64 a0_1) ∧ w60.cell? ⟨gb294, 2, none⟩ = some (.int .i64 a0_2) ∧ w60.cell? ⟨gb294, 3, none⟩ = some (.int .i64 a0_3) ∧ w60.cell? ⟨gb294, 4, none⟩ = some (.int .i64 a0_4) ∧ w60.cell? ⟨gb294, 5, none⟩ = some (.int .i64 a0_5) ∧ w60.cell? ⟨gb294, 6, none⟩ = some (.int .i64 a0_6) ∧ w60.cell? ⟨gb295, 0, none⟩ = some (.int .i64 a1_0) ∧ w60.cell? ⟨gb295, 1, none⟩ = some (.int .i64 a1_1) ∧ w60.cell? ⟨gb295, 2, none⟩ = some (.int .i64 a1_2) ∧ w60.cell? ⟨gb295, 3, none⟩ = some (.int .i64 a1_3) := hS_
   refine norm_ (a' := ?_) ?_ ?_
   rotate_left
   ·simp only [putAll, Act.put, Xa, Xb, Xc]
    rfl
   refine one_ (i := 5) (N := none) #[Zt,Zt,Zt,Zt,Zt,Zt] rfl rfl (by kernel_rfl) (by decide) (fun K hK => ?_)
   have hs61 : w60.cell? ⟨gb305, 0, none⟩ = some (.int .i64 0) := (Xd BK305.out 0).trans rfl
   have hfs61 := Xj BK305.out 0
   have hns61_0 := NB294_305.out
   have hns61_1 := NB295_305.out
   have hns61_2 := NB296_305.out
   have hms61_0 := NB305_294.out
   have hms61_1 := NB305_295.out
   have hms61_2 := NB305_296.out
   have hs62 : w60.cell? ⟨gb305, 1, none⟩ = some (.int .i64 0) := (Xd BK305.out 1).trans rfl
   have hfs62 := Xj BK305.out 1
   have hns62_0 := NB294_305.out
   have hns62_1 := NB295_305.out
   have hns62_2 := NB296_305.out
   have hms62_0 := NB305_294.out
   have hms62_1 := NB305_295.out
   have hms62_2 := NB305_296.out
   have hs63 : w60.cell? ⟨gb305, 2, none⟩ = some (.int .i64 0) := (Xd BK305.out 2).trans rfl
   have hfs63 := Xj BK305.out 2
   have hns63_0 := NB294_305.out
   have hns63_1 := NB295_305.out
   have hns63_2 := NB296_305.out
   have hms63_0 := NB305_294.out
   have hms63_1 := NB305_295.out
   have hms63_2 := NB305_296.out
   have hs64 : w60.cell? ⟨gb305, 3, none⟩ = some (.int .i64 0) := (Xd BK305.out 3).trans rfl
   have hfs64 := Xj BK305.out 3
   have hns64_0 := NB294_305.out
   have hns64_1 := NB295_305.out
   have hns64_2 := NB296_305.out
   have hms64_0 := NB305_294.out
   have hms64_1 := NB305_295.out
   have hms64_2 := NB305_296.out
   refine skip_ (w1 := ?_) (by rfl) rfl ?_ ?_
   rotate_left
   ·go_simp
    rfl
   refine hK.out _ _ ⟨((Xe (p := ⟨gb305, _, none⟩) NB294_305.out _).trans (((Xe (p := ⟨gb305, _, none⟩) NB294_305.out _).trans (((Xe (p := ⟨gb305, _, none⟩) NB294_305.out _).trans (((Xe (p := ⟨gb305, _, none⟩) NB294_305.out _).trans (hHeld.1)))))))), ((Xe (p := ⟨gb305, _, none⟩) NB294_305.out _).trans (((Xe (p := ⟨gb305, _, none⟩) NB294_305.out _).trans (((Xe (p := ⟨gb305, _, none⟩) NB294_305.out _).trans (((Xe (p := ⟨gb305, _, none⟩) NB294_305.out _).trans (hHeld.2.1)))))))), ((Xe (p := ⟨gb305, _, none⟩) NB294_305.out _).trans (((Xe (p := ⟨gb305, _, none⟩) NB294_305.out _).trans (((Xe (p := ⟨gb305, _, none⟩) NB294_305.out _).trans (((Xe (p := ⟨gb305, _, none⟩) NB294_305.out _).trans (hHeld.2.2.1)))))))), ((Xe (p := ⟨gb305, _, none⟩) NB294_305.out _).trans (((Xe (p := ⟨gb305, _, none⟩) NB294_305.out _).trans (((Xe (p := ⟨gb305, _, none⟩) NB294_305.out _).trans (((Xe (p := ⟨gb305, _, none⟩) NB294_305.out _).trans (hHeld.2.2.2.1)))))))), ((Xe (p := ⟨gb305, _, none⟩) NB294_305.out _).trans (((Xe (p := ⟨gb305, _, none⟩) NB294_305.out _).trans (((Xe (p := ⟨gb305, _, none⟩) NB294_305.out _).trans (((Xe (p := ⟨gb305, _, none⟩) NB294_305.out _).trans (hHeld.2.2.2.2.1)))))))), ((Xe (p := ⟨gb305, _, none⟩) NB294_305.out _).trans (((Xe (p := ⟨gb305, _, none⟩) NB294_305.out _).trans (((Xe (p := ⟨gb305, _, none⟩) NB294_305.out _).trans (((Xe (p := ⟨gb305, _, none⟩) NB294_305.out _).trans (hHeld.2.2.2.2.2.1)))))))), ((Xe (p := ⟨gb305, _, none⟩) NB294_305.out _).trans (((Xe (p := ⟨gb305, _, none⟩) NB294_305.out _).trans (((Xe (p := ⟨gb305, _, none⟩) NB294_305.out _).trans (((Xe (p := ⟨gb305, _, none⟩) NB294_305.out _).trans (hHeld.2.2.2.2.2.2.1)))))))), ((Xe (p := ⟨gb305, _, none⟩) NB295_305.out _).trans (((Xe (p := ⟨gb305, _, none⟩) NB295_305.out _).trans (((Xe (p := ⟨gb305, _, none⟩) NB295_305.out _).trans (((Xe (p := ⟨gb305, _, none⟩) NB295_305.out _).trans (hHeld.2.2.2.2.2.2.2.1)))))))), ((Xe (p := ⟨gb305, _, none⟩) NB295_305.out _).trans (((Xe (p := ⟨gb305, _, none⟩) NB295_305.out _).trans (((Xe (p := ⟨gb305, _, none⟩) NB295_305.out _).trans (((Xe (p := ⟨gb305, _, none⟩) NB295_305.out _).trans (hHeld.2.2.2.2.2.2.2.2.1)))))))), ((Xe (p := ⟨gb305, _, none⟩) NB295_305.out _).trans (((Xe (p := ⟨gb305, _, none⟩) NB295_305.out _).trans (((Xe (p := ⟨gb305, _, none⟩) NB295_305.out _).trans (((Xe (p := ⟨gb305, _, none⟩) NB295_305.out _).trans (hHeld.2.2.2.2.2.2.2.2.2.1)))))))), ((Xe (p := ⟨gb305, _, none⟩) NB295_305.out _).trans (((Xe (p := ⟨gb305, _, none⟩) NB295_305.out _).trans (((Xe (p := ⟨gb305, _, none⟩) NB295_305.out _).trans (((Xe (p := ⟨gb305, _, none⟩) NB295_305.out _).trans (hHeld.2.2.2.2.2.2.2.2.2.2))))))))⟩ (fun hHeld => ?_)
   clear hK K
   refine done_ (by kernel_rfl) ?_
   have hnb65 := NB294_295.out
   have hnc65 := NB295_294.out
   have hnb66 := NB294_296.out
   have hnc66 := NB296_294.out
   have hnb67 := NB294_305.out
   have hnc67 := NB305_294.out
   have hcz68_0 : w60.cell? ⟨gb294, 0, none⟩ = some (.int .i64 a0_0) := (Xd BK294.out 0).trans rfl
   have hcz68_1 : w60.cell? ⟨gb294, 1, none⟩ = some (.int .i64 a0_1) := (Xd BK294.out 1).trans rfl
   have hcz68_2 : w60.cell? ⟨gb294, 2, none⟩ = some (.int .i64 a0_2) := (Xd BK294.out 2).trans rfl
   have hcz68_3 : w60.cell? ⟨gb294, 3, none⟩ = some (.int .i64 a0_3) := (Xd BK294.out 3).trans rfl
   have hcz68_4 : w60.cell? ⟨gb294, 4, none⟩ = some (.int .i64 a0_4) := (Xd BK294.out 4).trans rfl
   have hcz68_5 : w60.cell? ⟨gb294, 5, none⟩ = some (.int .i64 a0_5) := (Xd BK294.out 5).trans rfl
   have hcz68_6 : w60.cell? ⟨gb294, 6, none⟩ = some (.int .i64 a0_6) := (Xd BK294.out 6).trans rfl
   have hfz68_0 := Xj BK294.out 0
   have hfz68_1 := Xj BK294.out 1
   have hfz68_2 := Xj BK294.out 2
   have hfz68_3 := Xj BK294.out 3
   have hfz68_4 := Xj BK294.out 4
   have hfz68_5 := Xj BK294.out 5
   have hfz68_6 := Xj BK294.out 6
   try go_wp2_with (first | ((with_reducible refine gate_callee (f := 86) rfl ?_); refine goesL_ (some 13) rfl rfl Try.func86 (by kernel_rfl) rfl #[.agg #[.int .i64 a0_0, .int .i64 a0_1, .int .i64 a0_2, .int .i64 a0_3]] rfl (by (try simp only [List.map_toArray, List.map_cons, List.map_nil]); first | done | rfl | (simp only [List.length_drop, List.length_take]; rfl)) ?_; (with_reducible refine (box_Empty.calls a0_0 a0_1 a0_2 a0_3 Zf _ A5.out).mono ?_); rintro e w69 ⟨rfl, hb⟩; refine ⟨_, rfl, ?_⟩; have n0_ := Za (Xf (g := gb294) (o := .cells #[.int .i64 a0_0, .int .i64 a0_1, .int .i64 a0_2, .int .i64 a0_3, .int .i64 a0_4, .int .i64 a0_5, .int .i64 a0_6] 55 (0, 0)) (by (with_reducible repeat (first | refine Xg ?_ _ | refine Xi ?_ | refine Xh ?_ _)); refine blk_far ?_ NB294_305.out _; (with_reducible repeat (first | refine Xg ?_ _ | refine Xi ?_ | refine Xh ?_ _)); refine blk_far ?_ NB294_305.out _; (with_reducible repeat (first | refine Xg ?_ _ | refine Xi ?_ | refine Xh ?_ _)); refine blk_far ?_ NB294_305.out _; (with_reducible repeat (first | refine Xg ?_ _ | refine Xi ?_ | refine Xh ?_ _)); refine blk_far ?_ NB294_305.out _; (with_reducible repeat (first | refine Xg ?_ _ | refine Xi ?_ | refine Xh ?_ _)); exact BK294.out) hb); have n1_ := Za (Xf (g := gb295) (o := .cells #[.int .i64 a1_0, .int .i64 a1_1, .int .i64 a1_2, .int .i64 a1_3] 37 (0, 0)) (by (with_reducible repeat (first | refine Xg ?_ _ | refine Xi ?_ | refine Xh ?_ _)); refine blk_far ?_ NB295_305.out _; (with_reducible repeat (first | refine Xg ?_ _ | refine Xi ?_ | refine Xh ?_ _)); refine blk_far ?_ NB295_305.out _; (with_reducible repeat (first | refine Xg ?_ _ | refine Xi ?_ | refine Xh ?_ _)); refine blk_far ?_ NB295_305.out _; (with_reducible repeat (first | refine Xg ?_ _ | refine Xi ?_ | refine Xh ?_ _)); refine blk_far ?_ NB295_305.out _; (with_reducible repeat (first | refine Xg ?_ _ | refine Xi ?_ | refine Xh ?_ _)); exact BK295.out) hb); have n2_ := Za (Xf (g := gb296) (o := .cells #[.int .i64 0, .int .i64 0, .int .i64 0, .int .i64 0, .int .i64 0, .int .i64 0, .int .i64 0] 55 (0, 0)) (by (with_reducible repeat (first | refine Xg ?_ _ | refine Xi ?_ | refine Xh ?_ _)); refine blk_far ?_ NB296_305.out _; (with_reducible repeat (first | refine Xg ?_ _ | refine Xi ?_ | refine Xh ?_ _)); refine blk_far ?_ NB296_305.out _; (with_reducible repeat (first | refine Xg ?_ _ | refine Xi ?_ | refine Xh ?_ _)); refine blk_far ?_ NB296_305.out _; (with_reducible repeat (first | refine Xg ?_ _ | refine Xi ?_ | refine Xh ?_ _)); refine blk_far ?_ NB296_305.out _; (with_reducible repeat (first | refine Xg ?_ _ | refine Xi ?_ | refine Xh ?_ _)); exact BK296.out) hb); have n3_ := Za (Xf (g := gb305) (o := .cells #[.int .i64 t301, .int .i64 t302, .int .i64 t303, .int .i64 t304] 37 (0, 0)) (by (with_reducible repeat (first | refine Xg ?_ _ | refine Xi ?_ | refine Xh ?_ _)); refine blk_put (cs := #[.int .i64 t301, .int .i64 t302, .int .i64 t303, .int .i64 0]) ?_ 3 _ rfl; (with_reducible repeat (first | refine Xg ?_ _ | refine Xi ?_ | refine Xh ?_ _)); refine blk_put (cs := #[.int .i64 t301, .int .i64 t302, .int .i64 0, .int .i64 0]) ?_ 2 _ rfl; (with_reducible repeat (first | refine Xg ?_ _ | refine Xi ?_ | refine Xh ?_ _)); refine blk_put (cs := #[.int .i64 t301, .int .i64 0, .int .i64 0, .int .i64 0]) ?_ 1 _ rfl; (with_reducible repeat (first | refine Xg ?_ _ | refine Xi ?_ | refine Xh ?_ _)); refine blk_put (cs := #[.int .i64 0, .int .i64 0, .int .i64 0, .int .i64 0]) ?_ 0 _ rfl; (with_reducible repeat (first | refine Xg ?_ _ | refine Xi ?_ | refine Xh ?_ _)); exact BK305.out) hb); have n4_ := Za (Xl (hb_13 HB.out) hb); clear BK294; clear BK295; clear BK296; clear BK305; clear HB; have BK294 := n0_; have BK295 := n1_; have BK296 := n2_; have BK305 := n3_; have HB := n4_; clear n0_ n1_ n2_ n3_ n4_; (try clear hb); (try clear hb2); (try clear hk); (try clear hi); have hnb70 := NB305_295.out; have hnc70 := NB295_305.out; have hnb71 := NB305_296.out; have hnc71 := NB296_305.out; have hcz72_0 : w69.cell? ⟨gb305, 0, none⟩ = some (.int .i64 t301) := (Xd BK305.out 0).trans rfl; have hcz72_1 : w69.cell? ⟨gb305, 1, none⟩ = some (.int .i64 t302) := (Xd BK305.out 1).trans rfl; have hcz72_2 : w69.cell? ⟨gb305, 2, none⟩ = some (.int .i64 t303) := (Xd BK305.out 2).trans rfl; have hcz72_3 : w69.cell? ⟨gb305, 3, none⟩ = some (.int .i64 t304) := (Xd BK305.out 3).trans rfl; have hfz72_0 := Xj BK305.out 0; have hfz72_1 := Xj BK305.out 1; have hfz72_2 := Xj BK305.out 2; have hfz72_3 := Xj BK305.out 3) | (go_at_call 86; (with_reducible refine (box_Empty.calls t301 t302 t303 t304 Zf _ A27.out).mono ?_); rintro e w73 ⟨rfl, hb⟩; have n0_ := Za (Xf (g := gb294) (o := .cells #[.int .i64 a0_0, .int .i64 a0_1, .int .i64 a0_2, .int .i64 a0_3, .int .i64 a0_4, .int .i64 a0_5, .int .i64 a0_6] 55 (0, 0)) (bb_13 BK294.out) hb); have n1_ := Za (Xf (g := gb295) (o := .cells #[.int .i64 a1_0, .int .i64 a1_1, .int .i64 a1_2, .int .i64 a1_3] 37 (0, 0)) (bb_13 BK295.out) hb); have n2_ := Za (Xf (g := gb296) (o := .cells #[.int .i64 0, .int .i64 0, .int .i64 0, .int .i64 0, .int .i64 0, .int .i64 0, .int .i64 0] 55 (0, 0)) (bb_13 BK296.out) hb); have n3_ := Za (Xf (g := gb305) (o := .cells #[.int .i64 t301, .int .i64 t302, .int .i64 t303, .int .i64 t304] 37 (0, 0)) (bb_13 BK305.out) hb); have n4_ := Za (Xl (hb_13 HB.out) hb); clear BK294; clear BK295; clear BK296; clear BK305; clear HB; have BK294 := n0_; have BK295 := n1_; have BK296 := n2_; have BK305 := n3_; have HB := n4_; clear n0_ n1_ n2_ n3_ n4_; (try clear hb); (try clear hb2); (try clear hk); (try clear hi); have hcz74_0 : w73.cell? ⟨gb294, 0, none⟩ = some (.int .i64 a0_0) := (Xd BK294.out 0).trans rfl; have hcz74_1 : w73.cell? ⟨gb294, 1, none⟩ = some (.int .i64 a0_1) := (Xd BK294.out 1).trans rfl; have hcz74_2 : w73.cell? ⟨gb294, 2, none⟩ = some (.int .i64 a0_2) := (Xd BK294.out 2).trans rfl; have hcz74_3 : w73.cell? ⟨gb294, 3, none⟩ = some (.int .i64 a0_3) := (Xd BK294.out 3).trans rfl; have hcz74_4 : w73.cell? ⟨gb294, 4, none⟩ = some (.int .i64 a0_4) := (Xd BK294.out 4).trans rfl; have hcz74_5 : w73.cell? ⟨gb294, 5, none⟩ = some (.int .i64 a0_5) := (Xd BK294.out 5).trans rfl; have hcz74_6 : w73.cell? ⟨gb294, 6, none⟩ = some (.int .i64 a0_6) := (Xd BK294.out 6).trans rfl; have hfz74_0 := Xj BK294.out 0; have hfz74_1 := Xj BK294.out 1; have hfz74_2 := Xj BK294.out 2; have hfz74_3 := Xj BK294.out 3; have hfz74_4 := Xj BK294.out 4; have hfz74_5 := Xj BK294.out 5; have hfz74_6 := Xj BK294.out 6; have hcz75_0 : w73.cell? ⟨gb305, 0, none⟩ = some (.int .i64 t301) := (Xd BK305.out 0).trans rfl; have hcz75_1 : w73.cell? ⟨gb305, 1, none⟩ = some (.int .i64 t302) := (Xd BK305.out 1).trans rfl; have hcz75_2 : w73.cell? ⟨gb305, 2, none⟩ = some (.int .i64 t303) := (Xd BK305.out 2).trans rfl; have hcz75_3 : w73.cell? ⟨gb305, 3, none⟩ = some (.int .i64 t304) := (Xd BK305.out 3).trans rfl; have hfz75_0 := Xj BK305.out 0; have hfz75_1 := Xj BK305.out 1; have hfz75_2 := Xj BK305.out 2; have hfz75_3 := Xj BK305.out 3) | ((with_reducible refine gate_callee (f := 88) rfl ?_); refine goesL_ (some 21) rfl rfl Try.func88 (by kernel_rfl) rfl #[.agg #[.int .i64 a0_0, .int .i64 a0_1, .int .i64 a0_2, .int .i64 a0_3, .int .i64 a0_4, .int .i64 a0_5, .int .i64 a0_6], .agg #[.int .i64 t301, .int .i64 t302, .int .i64 t303, .int .i64 t304]] rfl (by (try simp only [List.map_toArray, List.map_cons, List.map_nil]); first | done | rfl | (simp only [List.length_drop, List.length_take]; rfl)) ?_; (with_reducible refine (layer_part.calls k a0_0 a0_1 a0_2 a0_3 a0_4 a0_5 a0_6 t301 t302 t303 t304 t308 t309 t310 t311 t312 t313 t314 _ A52.out).mono ?_); rintro e w76 ⟨rfl, hb⟩; refine ⟨_, rfl, ?_⟩; have n0_ := Za (Xf (g := gb294) (o := .cells #[.int .i64 a0_0, .int .i64 a0_1, .int .i64 a0_2, .int .i64 a0_3, .int .i64 a0_4, .int .i64 a0_5, .int .i64 a0_6] 55 (0, 0)) (bb_13 BK294.out) hb); have n1_ := Za (Xf (g := gb295) (o := .cells #[.int .i64 a1_0, .int .i64 a1_1, .int .i64 a1_2, .int .i64 a1_3] 37 (0, 0)) (bb_13 BK295.out) hb); have n2_ := Za (Xf (g := gb296) (o := .cells #[.int .i64 0, .int .i64 0, .int .i64 0, .int .i64 0, .int .i64 0, .int .i64 0, .int .i64 0] 55 (0, 0)) (bb_13 BK296.out) hb); have n3_ := Za (Xf (g := gb305) (o := .cells #[.int .i64 t301, .int .i64 t302, .int .i64 t303, .int .i64 t304] 37 (0, 0)) (bb_13 BK305.out) hb); have n4_ := Za (Xl (hb_13 HB.out) hb); clear BK294; clear BK295; clear BK296; clear BK305; clear HB; have BK294 := n0_; have BK295 := n1_; have BK296 := n2_; have BK305 := n3_; have HB := n4_; clear n0_ n1_ n2_ n3_ n4_; (try clear hb); (try clear hb2); (try clear hk); (try clear hi); have hnb77 := NB296_295.out; have hnc77 := NB295_296.out; have hcz78_0 : w76.cell? ⟨gb296, 0, none⟩ = some (.int .i64 0) := (Xd BK296.out 0).trans rfl; have hcz78_1 : w76.cell? ⟨gb296, 1, none⟩ = some (.int .i64 0) := (Xd BK296.out 1).trans rfl; have hcz78_2 : w76.cell? ⟨gb296, 2, none⟩ = some (.int .i64 0) := (Xd BK296.out 2).trans rfl; have hcz78_3 : w76.cell? ⟨gb296, 3, none⟩ = some (.int .i64 0) := (Xd BK296.out 3).trans rfl; have hcz78_4 : w76.cell? ⟨gb296, 4, none⟩ = some (.int .i64 0) := (Xd BK296.out 4).trans rfl; have hcz78_5 : w76.cell? ⟨gb296, 5, none⟩ = some (.int .i64 0) := (Xd BK296.out 5).trans rfl; have hcz78_6 : w76.cell? ⟨gb296, 6, none⟩ = some (.int .i64 0) := (Xd BK296.out 6).trans rfl; have hfz78_0 := Xj BK296.out 0; have hfz78_1 := Xj BK296.out 1; have hfz78_2 := Xj BK296.out 2; have hfz78_3 := Xj BK296.out 3; have hfz78_4 := Xj BK296.out 4; have hfz78_5 := Xj BK296.out 5; have hfz78_6 := Xj BK296.out 6))
   refine bodyPost_ret (results_ct rfl _ _ gb296 55 #[.int .i64 t308, .int .i64 t309, .int .i64 t310, .int .i64 t311, .int .i64 t312, .int .i64 t313, .int .i64 t314] (0, 0) _ rfl (by (with_reducible repeat (first | refine Xg ?_ _ | refine Xi ?_ | refine Xh ?_ _)); refine blk_put (cs := #[.int .i64 t308, .int .i64 t309, .int .i64 t310, .int .i64 t311, .int .i64 t312, .int .i64 t313, .int .i64 0]) ?_ 6 _ rfl; (with_reducible repeat (first | refine Xg ?_ _ | refine Xi ?_ | refine Xh ?_ _)); refine blk_put (cs := #[.int .i64 t308, .int .i64 t309, .int .i64 t310, .int .i64 t311, .int .i64 t312, .int .i64 0, .int .i64 0]) ?_ 5 _ rfl; (with_reducible repeat (first | refine Xg ?_ _ | refine Xi ?_ | refine Xh ?_ _)); refine blk_put (cs := #[.int .i64 t308, .int .i64 t309, .int .i64 t310, .int .i64 t311, .int .i64 0, .int .i64 0, .int .i64 0]) ?_ 4 _ rfl; (with_reducible repeat (first | refine Xg ?_ _ | refine Xi ?_ | refine Xh ?_ _)); refine blk_put (cs := #[.int .i64 t308, .int .i64 t309, .int .i64 t310, .int .i64 0, .int .i64 0, .int .i64 0, .int .i64 0]) ?_ 3 _ rfl; (with_reducible repeat (first | refine Xg ?_ _ | refine Xi ?_ | refine Xh ?_ _)); refine blk_put (cs := #[.int .i64 t308, .int .i64 t309, .int .i64 0, .int .i64 0, .int .i64 0, .int .i64 0, .int .i64 0]) ?_ 2 _ rfl; (with_reducible repeat (first | refine Xg ?_ _ | refine Xi ?_ | refine Xh ?_ _)); refine blk_put (cs := #[.int .i64 t308, .int .i64 0, .int .i64 0, .int .i64 0, .int .i64 0, .int .i64 0, .int .i64 0]) ?_ 1 _ rfl; (with_reducible repeat (first | refine Xg ?_ _ | refine Xi ?_ | refine Xh ?_ _)); refine blk_put (cs := #[.int .i64 0, .int .i64 0, .int .i64 0, .int .i64 0, .int .i64 0, .int .i64 0, .int .i64 0]) ?_ 0 _ rfl; (with_reducible repeat (first | refine Xg ?_ _ | refine Xi ?_ | refine Xh ?_ _)); exact BK296.out) Try.underlying55 rfl (by kernel_rfl)) rfl ?_
   exact ⟨by first | rfl | (simp [errW_none, errW_some] <;> rfl) | (simp [*, errW_none, errW_some] <;> rfl), by repeat (first | (with_reducible first | exact HB.out | apply below_alloc | apply pw_below_drewN | apply below_drew1 | refine below_set ?_ GE294.out | refine below_set ?_ GE295.out | refine below_set ?_ GE296.out | refine below_set ?_ GE305.out) | exact HB.out)⟩

end Go.Proofs.Ythgmjhidigoneaa.PLayerKeeps
