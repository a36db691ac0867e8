import Derived.Test.YthgmjhidigoneaaPLayerKeepsx0
import Derived.Test.YthgmjhidigoneaaPLayerKeepsx9
import Derived.Test.YthgmjhidigoneaaPLayerKeepsx10
import Derived.Test.YthgmjhidigoneaaPLayerKeepsx11
import Derived.Test.YthgmjhidigoneaaPLayerKeepsx14
namespace Go.Proofs.Ythgmjhidigoneaa.PLayerKeeps
open Go.RowKit Go.Proofs.YthgmjhidigoneaaW.PrintWords Go.Proofs.YthgmjhidigoneaaW.PrintLast Go.Proofs.YthgmjhidigoneaaW.PrintMore
open Bool renaming true → Zt, false → Zf
open Go.Proofs.YthgmjhidigoneaaW.PrintWords.Aside0 renaming mk → Za
open List renaming setIfInBounds_toArray → Xa, set_cons_zero → Xb, set_cons_succ → Xc
open Go.Proofs.YthgmjhidigoneaaW.PrintWords renaming blk_cell → Xd, cell_far → Xe, blk_drewN → Xf, blk_alloc → Xg, blk_drew → Xh, blk_below → Xi, blk_frozen → Xj
attribute [local go_sem] max2_int min2_int max_two min_two max_three min_three max_four min_four   -- for this text's walks alone
set_option linter.unusedVariables false
set_option linter.unusedSimpArgs false
theorem bb_15 {p q : Prop} (h : q) (f : q → p := by intro h_; (with_reducible repeat (first | refine blk_drewN ?_ _ | refine blk_drew ?_ | refine blk_alloc ?_ _)); exact h_) : p := f h
theorem hb_15 {B : Nat} {w W W1 : World} (h : Below B w W) (f : Below B w W → Below B w W1 := by intro h_; repeat (first | (with_reducible first | exact h_ | apply below_alloc | apply pw_below_drewN | apply below_drew1 | refine below_set ?_ (Aside0.out (by assumption))) | exact h_)) : Below B w W1 := f h

/-! ### gatherumref38_Keep: function 65 -/
def gatherumref38_Keep.j0 : Nat → Bool → Int → Int → Int → Int → Int → Int → Int → Int → Int → Int → Int → Option (Int × Int × Int × Int × Int × Int × Int × Bool)
 | 0, _, _, _, _, _, _, _, _, _, _, _, _ => none
 | k + 1, x17, x348000, x348001, x348002, x348003, x348004, x348005, x348006, x359000, x359001, x359002, x359003 => if x17 = Zt then (some (0, 0, 0, 0, 0, 0, 0, Zf)) else ((gatherumref04_Back.f k x348004 x348005 x348006).bind fun bt361 => ((gatherumref04_Box.f k bt361.1 bt361.2.1 bt361.2.2 x359000 x359001 x359002 x359003).bind fun bt364 => (some (bt364.1, bt364.2.1, bt364.2.2.1, bt364.2.2.2, x348004, x348005, x348006, Zt))))
def gatherumref38_Keep.f (k : Nat) (a0_0 : Int) (a0_1 : Int) (a0_2 : Int) (a0_3 : Int) (a0_4 : Int) (a0_5 : Int) (a0_6 : Int) (a1_0 : Int) (a1_1 : Int) (a1_2 : Int) (a1_3 : Int) : Option (Int × Int × Int × Int × Int × Int × Int × Bool) := (gatherumref38_Lies.f k a0_0 a0_1 a0_2 a0_3 a0_4 a0_5 a0_6).bind fun bt350 => ((gatherumref04_Meet.f bt350.1 bt350.2.1 bt350.2.2.1 bt350.2.2.2 a1_0 a1_1 a1_2 a1_3).bind fun bt354 => ((gatherumref04_Empty.f a0_0 a0_1 a0_2 a0_3).bind fun t359 => (if t359 = Zt then (gatherumref38_Keep.j0 k Zt a0_0 a0_1 a0_2 a0_3 a0_4 a0_5 a0_6 bt354.1 bt354.2.1 bt354.2.2.1 bt354.2.2.2) else ((gatherumref04_Empty.f bt354.1 bt354.2.1 bt354.2.2.1 bt354.2.2.2).bind fun t360 => (gatherumref38_Keep.j0 k t360 a0_0 a0_1 a0_2 a0_3 a0_4 a0_5 a0_6 bt354.1 bt354.2.1 bt354.2.2.1 bt354.2.2.2)))))
theorem gatherumref38_Keep.mono_l : ∀ k, (∀ y0 y1 y2 y3 y4 y5 y6 y7 y8 y9 y10 y11, LeO (gatherumref38_Keep.j0 k y0 y1 y2 y3 y4 y5 y6 y7 y8 y9 y10 y11) (gatherumref38_Keep.j0 (k + 1) y0 y1 y2 y3 y4 y5 y6 y7 y8 y9 y10 y11))
 | 0 => fun _ _ _ _ _ _ _ _ _ _ _ _ r h => by simp [gatherumref38_Keep.j0] at h
 | k + 1 => by
  have ih0 := gatherumref38_Keep.mono_l k
  ·intro y0 y1 y2 y3 y4 y5 y6 y7 y8 y9 y10 y11
   unfold gatherumref38_Keep.j0
   repeat' first
   | (with_reducible exact ih0 _ _ _ _ _ _ _ _ _ _ _ _)
   | (with_reducible exact gatherumref04_Back.mono _ _ _ _)
   | (with_reducible exact gatherumref04_Box.mono _ _ _ _ _ _ _ _)
   | (with_reducible exact gatherumref38_Lies.mono _ _ _ _ _ _ _ _)
   | (with_reducible exact LeO.refl _)
   | (with_reducible exact LeO.none _)
   | (with_reducible refine LeO.ite ?_ ?_)
   | (with_reducible refine LeO.bind ?_ (fun _ => ?_))
   | exact ih0 _ _ _ _ _ _ _ _ _ _ _ _
   | exact gatherumref04_Back.mono _ _ _ _
   | exact gatherumref04_Box.mono _ _ _ _ _ _ _ _
   | exact gatherumref38_Lies.mono _ _ _ _ _ _ _ _
   | exact LeO.none _
   | refine LeO.ite ?_ ?_
   | refine LeO.bind ?_ (fun _ => ?_)
theorem gatherumref38_Keep.mono : ∀ a0 a1 a2 a3 a4 a5 a6 a7 a8 a9 a10 k, LeO (gatherumref38_Keep.f k a0 a1 a2 a3 a4 a5 a6 a7 a8 a9 a10) (gatherumref38_Keep.f (k + 1) a0 a1 a2 a3 a4 a5 a6 a7 a8 a9 a10) := by
 intro a0 a1 a2 a3 a4 a5 a6 a7 a8 a9 a10 k
 have ih0 := gatherumref38_Keep.mono_l k
 unfold gatherumref38_Keep.f
 repeat' first
   | (with_reducible exact ih0 _ _ _ _ _ _ _ _ _ _ _ _)
   | (with_reducible exact gatherumref04_Back.mono _ _ _ _)
   | (with_reducible exact gatherumref04_Box.mono _ _ _ _ _ _ _ _)
   | (with_reducible exact gatherumref38_Lies.mono _ _ _ _ _ _ _ _)
   | (with_reducible exact LeO.refl _)
   | (with_reducible exact LeO.none _)
   | (with_reducible refine LeO.ite ?_ ?_)
   | (with_reducible refine LeO.bind ?_ (fun _ => ?_))
   | exact ih0 _ _ _ _ _ _ _ _ _ _ _ _
   | exact gatherumref04_Back.mono _ _ _ _
   | exact gatherumref04_Box.mono _ _ _ _ _ _ _ _
   | exact gatherumref38_Lies.mono _ _ _ _ _ _ _ _
   | exact LeO.none _
   | refine LeO.ite ?_ ?_
   | refine LeO.bind ?_ (fun _ => ?_)
def gatherumref38_Keep.T4 : Bool × List (List Nat × List Nat) := (Zt, [([], []), ([0], [0]), ([1], [1]), ([], []), ([2, 3, 2], [2, 3]), ([], []), ([5], [5]), ([4, 6], [4, 6]), ([7, 4, 0, 1, 2, 3, 4, 5, 6, 7], [7]), ([8, 0, 1, 2, 3, 4, 5, 6, 7, 8], [])])
def gatherumref38_Keep.B4 : List Nat := [0, 1, 3, 0, 15, 0, 32, 127, 255, 511]
theorem gatherumref38_Keep.tab4 : rtab .any (opsOf Try.f65 4) = gatherumref38_Keep.T4 := by kernel_rfl
theorem gatherumref38_Keep.bits4 : waitsOk gatherumref38_Keep.T4.2 gatherumref38_Keep.B4 = Zt := by kernel_rfl
set_option maxHeartbeats 8000000 in
set_option maxRecDepth 100000 in
theorem gatherumref38_Keep.calls (k : Nat) (a0_0 : Int) (a0_1 : Int) (a0_2 : Int) (a0_3 : Int) (a0_4 : Int) (a0_5 : Int) (a0_6 : Int) (a1_0 : Int) (a1_1 : Int) (a1_2 : Int) (a1_3 : Int) (r1 : Int) (r2 : Int) (r3 : Int) (r4 : Int) (r5 : Int) (r6 : Int) (r7 : Int) (r8 : Bool) (w : World) (h : gatherumref38_Keep.f k a0_0 a0_1 a0_2 a0_3 a0_4 a0_5 a0_6 a1_0 a1_1 a1_2 a1_3 = some (r1, r2, r3, r4, r5, r6, r7, r8)) :
  Calls Try.prog 65 #[.agg #[.int .i64 a0_0, .int .i64 a0_1, .int .i64 a0_2, .int .i64 a0_3, .int .i64 a0_4, .int .i64 a0_5, .int .i64 a0_6], .agg #[.int .i64 a1_0, .int .i64 a1_1, .int .i64 a1_2, .int .i64 a1_3]] w fun e w' => e = .returned (.tuple #[.agg #[.int .i64 r1, .int .i64 r2, .int .i64 r3, .int .i64 r4, .int .i64 r5, .int .i64 r6, .int .i64 r7], .bool r8]) ∧ Below w.heap.size w w' := by
 have hu55 := Try.underlying55
 have hu37 := Try.underlying37
 have hu32 := Try.underlying32
 have HB := Za (Below.refl w.heap.size w)
 have H : ((gatherumref38_Lies.f k a0_0 a0_1 a0_2 a0_3 a0_4 a0_5 a0_6).bind fun bt350 => ((gatherumref04_Meet.f bt350.1 bt350.2.1 bt350.2.2.1 bt350.2.2.2 a1_0 a1_1 a1_2 a1_3).bind fun bt354 => ((gatherumref04_Empty.f a0_0 a0_1 a0_2 a0_3).bind fun t359 => (if t359 = Zt then (gatherumref38_Keep.j0 k Zt a0_0 a0_1 a0_2 a0_3 a0_4 a0_5 a0_6 bt354.1 bt354.2.1 bt354.2.2.1 bt354.2.2.2) else ((gatherumref04_Empty.f bt354.1 bt354.2.1 bt354.2.2.1 bt354.2.2.2).bind fun t360 => (gatherumref38_Keep.j0 k t360 a0_0 a0_1 a0_2 a0_3 a0_4 a0_5 a0_6 bt354.1 bt354.2.1 bt354.2.2.1 bt354.2.2.2)))))) = some (r1, r2, r3, r4, r5, r6, r7, r8) := h
 clear h
 replace H := Option.bind_eq_some_iff.mp H
 obtain ⟨⟨t350, t351, t352, t353⟩, A30, H⟩ := H
 replace H : ((gatherumref04_Meet.f t350 t351 t352 t353 a1_0 a1_1 a1_2 a1_3).bind fun bt354 => ((gatherumref04_Empty.f a0_0 a0_1 a0_2 a0_3).bind fun t359 => (if t359 = Zt then (gatherumref38_Keep.j0 k Zt a0_0 a0_1 a0_2 a0_3 a0_4 a0_5 a0_6 bt354.1 bt354.2.1 bt354.2.2.1 bt354.2.2.2) else ((gatherumref04_Empty.f bt354.1 bt354.2.1 bt354.2.2.1 bt354.2.2.2).bind fun t360 => (gatherumref38_Keep.j0 k t360 a0_0 a0_1 a0_2 a0_3 a0_4 a0_5 a0_6 bt354.1 bt354.2.1 bt354.2.2.1 bt354.2.2.2))))) = some (r1, r2, r3, r4, r5, r6, r7, r8) := H
 have A3 := Za A30
 clear A30
 replace H := Option.bind_eq_some_iff.mp H
 obtain ⟨⟨t354, t355, t356, t357⟩, A40, H⟩ := H
 replace H : ((gatherumref04_Empty.f a0_0 a0_1 a0_2 a0_3).bind fun t359 => (if t359 = Zt then (gatherumref38_Keep.j0 k Zt a0_0 a0_1 a0_2 a0_3 a0_4 a0_5 a0_6 t354 t355 t356 t357) else ((gatherumref04_Empty.f t354 t355 t356 t357).bind fun t360 => (gatherumref38_Keep.j0 k t360 a0_0 a0_1 a0_2 a0_3 a0_4 a0_5 a0_6 t354 t355 t356 t357)))) = some (r1, r2, r3, r4, r5, r6, r7, r8) := H
 have A4 := Za A40
 clear A40
 have HC5 := Za H
 clear H
 go_enter Try.func65, Try.ntmps65
 try go_wp2_with (first | ((with_reducible refine gate_dst (N := 2) rfl ?_); refine box_event ?hg (N := 2) ?hd (cs := #[.int .i64 a0_0, .int .i64 a0_1, .int .i64 a0_2, .int .i64 a0_3, .int .i64 a0_4, .int .i64 a0_5, .int .i64 a0_6]) (t := 55) ?hr ?_; (case hd => rfl); (case hg => rfl); (case hr => first | (go_simp; done) | (go_simp; rfl)); intro gb347 hg w6 hbox hb; have n0_ := Za (below_step (hb_15 HB.out) hb); have n1_ := Za (hbox); have n2_ := Za ((by rw [hg]; exact (below_size (hb_15 HB.out)) : w.heap.size ≤ gb347)); have n3_ := Za ((by rw [hg]; exact (below_size (hb_15 HB.out)) : w.heap.size ≤ gb347)); clear HB; have HB := n0_; have BK347 := n1_; have GW347 := n2_; have GE347 := n3_; clear n0_ n1_ n2_ n3_; clear hb hbox hg) | ((with_reducible refine gate_dst (N := 3) rfl ?_); refine box_event ?hg (N := 3) ?hd (cs := #[.int .i64 a1_0, .int .i64 a1_1, .int .i64 a1_2, .int .i64 a1_3]) (t := 37) ?hr ?_; (case hd => rfl); (case hg => rfl); (case hr => first | (go_simp; done) | (go_simp; rfl)); intro gb348 hg w7 hbox hb; have n0_ := Za (Xi (g := gb347) (o := .cells #[.int .i64 a0_0, .int .i64 a0_1, .int .i64 a0_2, .int .i64 a0_3, .int .i64 a0_4, .int .i64 a0_5, .int .i64 a0_6] 55 (0, 0)) (bb_15 BK347.out) hb); have n1_ := Za (below_step (hb_15 HB.out) hb); have n2_ := Za (hbox); have n3_ := Za ((by rw [hg]; exact (below_size (hb_15 HB.out)) : w.heap.size ≤ gb348)); have n4_ := Za ((by rw [hg]; exact (below_size (hb_15 HB.out)) : w.heap.size ≤ gb348)); have n5_ := Za ((by rw [hg]; exact Nat.ne_of_lt (blk_lt (g := gb347) (o := .cells #[.int .i64 a0_0, .int .i64 a0_1, .int .i64 a0_2, .int .i64 a0_3, .int .i64 a0_4, .int .i64 a0_5, .int .i64 a0_6] 55 (0, 0)) (bb_15 BK347.out)) : gb347 ≠ gb348)); have n6_ := Za ((by rw [hg]; exact Nat.ne_of_gt (blk_lt (g := gb347) (o := .cells #[.int .i64 a0_0, .int .i64 a0_1, .int .i64 a0_2, .int .i64 a0_3, .int .i64 a0_4, .int .i64 a0_5, .int .i64 a0_6] 55 (0, 0)) (bb_15 BK347.out)) : gb348 ≠ gb347)); clear BK347; clear HB; have BK347 := n0_; have HB := n1_; have BK348 := n2_; have GW348 := n3_; have GE348 := n4_; have NB347_348 := n5_; have NB348_347 := n6_; clear n0_ n1_ n2_ n3_ n4_ n5_ n6_; clear hb hbox hg) | ((with_reducible refine gate_dst (N := 4) rfl ?_); refine box_event ?hg (N := 4) ?hd (cs := #[.int .i64 0, .int .i64 0, .int .i64 0, .int .i64 0, .int .i64 0, .int .i64 0, .int .i64 0]) (t := 55) ?hr ?_; (case hd => rfl); (case hg => rfl); (case hr => first | (go_simp; done) | (go_simp; rfl)); intro gb349 hg w8 hbox hb; have n0_ := Za (Xi (g := gb347) (o := .cells #[.int .i64 a0_0, .int .i64 a0_1, .int .i64 a0_2, .int .i64 a0_3, .int .i64 a0_4, .int .i64 a0_5, .int .i64 a0_6] 55 (0, 0)) (bb_15 BK347.out) hb); have n1_ := Za (Xi (g := gb348) (o := .cells #[.int .i64 a1_0, .int .i64 a1_1, .int .i64 a1_2, .int .i64 a1_3] 37 (0, 0)) (bb_15 BK348.out) hb); have n2_ := Za (below_step (hb_15 HB.out) hb); have n3_ := Za (hbox); have n4_ := Za ((by rw [hg]; exact (below_size (hb_15 HB.out)) : w.heap.size ≤ gb349)); have n5_ := Za ((by rw [hg]; exact (below_size (hb_15 HB.out)) : w.heap.size ≤ gb349)); have n6_ := Za ((by rw [hg]; exact Nat.ne_of_lt (blk_lt (g := gb347) (o := .cells #[.int .i64 a0_0, .int .i64 a0_1, .int .i64 a0_2, .int .i64 a0_3, .int .i64 a0_4, .int .i64 a0_5, .int .i64 a0_6] 55 (0, 0)) (bb_15 BK347.out)) : gb347 ≠ gb349)); have n7_ := Za ((by rw [hg]; exact Nat.ne_of_gt (blk_lt (g := gb347) (o := .cells #[.int .i64 a0_0, .int .i64 a0_1, .int .i64 a0_2, .int .i64 a0_3, .int .i64 a0_4, .int .i64 a0_5, .int .i64 a0_6] 55 (0, 0)) (bb_15 BK347.out)) : gb349 ≠ gb347)); have n8_ := Za ((by rw [hg]; exact Nat.ne_of_lt (blk_lt (g := gb348) (o := .cells #[.int .i64 a1_0, .int .i64 a1_1, .int .i64 a1_2, .int .i64 a1_3] 37 (0, 0)) (bb_15 BK348.out)) : gb348 ≠ gb349)); have n9_ := Za ((by rw [hg]; exact Nat.ne_of_gt (blk_lt (g := gb348) (o := .cells #[.int .i64 a1_0, .int .i64 a1_1, .int .i64 a1_2, .int .i64 a1_3] 37 (0, 0)) (bb_15 BK348.out)) : gb349 ≠ gb348)); clear BK347; clear BK348; clear HB; have BK347 := n0_; have BK348 := n1_; have HB := n2_; have BK349 := n3_; have GW349 := n4_; have GE349 := n5_; have NB347_349 := n6_; have NB349_347 := n7_; have NB348_349 := n8_; have NB349_348 := n9_; clear n0_ n1_ n2_ n3_ n4_ n5_ n6_ n7_ n8_ n9_; clear hb hbox hg))
 have n0_ := Za (Xh BK347.out)
 have n1_ := Za (Xh BK348.out)
 have n2_ := Za (Xh BK349.out)
 have n3_ := Za (below_drew1 HB.out)
 clear BK347
 clear BK348
 clear BK349
 clear HB
 have BK347 := n0_
 have BK348 := n1_
 have BK349 := n2_
 have HB := n3_
 clear n0_ n1_ n2_ n3_
 refine start_ (n := 6) (S := fun w' => w'.cell? ⟨gb347, 0, none⟩ = some (.int .i64 a0_0) ∧ w'.cell? ⟨gb347, 1, none⟩ = some (.int .i64 a0_1) ∧ w'.cell? ⟨gb347, 2, none⟩ = some (.int .i64 a0_2) ∧ w'.cell? ⟨gb347, 3, none⟩ = some (.int .i64 a0_3) ∧ w'.cell? ⟨gb347, 4, none⟩ = some (.int .i64 a0_4) ∧ w'.cell? ⟨gb347, 5, none⟩ = some (.int .i64 a0_5) ∧ w'.cell? ⟨gb347, 6, none⟩ = some (.int .i64 a0_6) ∧ w'.cell? ⟨gb348, 0, none⟩ = some (.int .i64 a1_0) ∧ w'.cell? ⟨gb348, 1, none⟩ = some (.int .i64 a1_1) ∧ w'.cell? ⟨gb348, 2, none⟩ = some (.int .i64 a1_2) ∧ w'.cell? ⟨gb348, 3, none⟩ = some (.int .i64 a1_3)) (ds := []) #[Zf,Zf,Zf,Zf,Zf,Zf] (by kernel_rfl) rfl rfl ⟨(Xd BK347.out 0).trans rfl, (Xd BK347.out 1).trans rfl, (Xd BK347.out 2).trans rfl, (Xd BK347.out 3).trans rfl, (Xd BK347.out 4).trans rfl, (Xd BK347.out 5).trans rfl, (Xd BK347.out 6).trans rfl, (Xd BK348.out 0).trans rfl, (Xd BK348.out 1).trans rfl, (Xd BK348.out 2).trans rfl, (Xd BK348.out 3).trans rfl⟩ (fun hHeld => ?_)
 generalize w8.drew = w9 at BK347 BK348 BK349 HB hHeld ⊢
 refine take_ (i := 0) (N := some 7) (v := ?_) (a' := ?_) #[Zt,Zf,Zf,Zf,Zf,Zf] rfl rfl (by kernel_rfl) (fun _ _ _ h => h) (Or.inl ⟨by rfl, ?_⟩) hHeld ?_ ?_
 rotate_left
 ·rintro w' ⟨s0, s1, s2, s3, s4, s5, s6, s7, s8, s9, s10⟩
  go_simp
  with_reducible rfl
 rotate_left
 ·simp only [Act.put, Xa, Xb, Xc, i64_w, i32_w]
  rfl
 refine take_ (i := 2) (N := some 9) (v := ?_) (a' := ?_) #[Zt,Zf,Zt,Zf,Zf,Zf] rfl rfl (by kernel_rfl) (fun _ _ _ h => h) (Or.inl ⟨by rfl, ?_⟩) hHeld ?_ ?_
 rotate_left
 ·rintro w' ⟨s0, s1, s2, s3, s4, s5, s6, s7, s8, s9, s10⟩
  go_simp
  with_reducible rfl
 rotate_left
 ·simp only [Act.put, Xa, Xb, Xc, i64_w, i32_w]
  rfl
 refine join_ (σ := Nat) 1 #[Zt,Zt,Zt,Zt,Zt,Zf] (fun s_ => [(8, .agg #[.int .i64 t350, .int .i64 t351, .int .i64 t352, .int .i64 t353]), (10, .agg #[.int .i64 t354, .int .i64 t355, .int .i64 t356, .int .i64 t357]), (6, .pointer (some ⟨s_, 0, none⟩))]) (fun s_ w' => (w'.cell? ⟨gb347, 0, none⟩ = some (.int .i64 a0_0) ∧ w'.cell? ⟨gb347, 1, none⟩ = some (.int .i64 a0_1) ∧ w'.cell? ⟨gb347, 2, none⟩ = some (.int .i64 a0_2) ∧ w'.cell? ⟨gb347, 3, none⟩ = some (.int .i64 a0_3) ∧ w'.cell? ⟨gb347, 4, none⟩ = some (.int .i64 a0_4) ∧ w'.cell? ⟨gb347, 5, none⟩ = some (.int .i64 a0_5) ∧ w'.cell? ⟨gb347, 6, none⟩ = some (.int .i64 a0_6) ∧ w'.cell? ⟨gb348, 0, none⟩ = some (.int .i64 a1_0) ∧ w'.cell? ⟨gb348, 1, none⟩ = some (.int .i64 a1_1) ∧ w'.cell? ⟨gb348, 2, none⟩ = some (.int .i64 a1_2) ∧ w'.cell? ⟨gb348, 3, none⟩ = some (.int .i64 a1_3)) ∧ (w'.heap[gb347]? = some (.cells #[.int .i64 a0_0, .int .i64 a0_1, .int .i64 a0_2, .int .i64 a0_3, .int .i64 a0_4, .int .i64 a0_5, .int .i64 a0_6] 55 (0, 0))) ∧ (w'.heap[gb348]? = some (.cells #[.int .i64 a1_0, .int .i64 a1_1, .int .i64 a1_2, .int .i64 a1_3] 37 (0, 0))) ∧ (w'.heap[gb349]? = some (.cells #[.int .i64 0, .int .i64 0, .int .i64 0, .int .i64 0, .int .i64 0, .int .i64 0, .int .i64 0] 55 (0, 0))) ∧ (w'.heap[s_]? = some (.cells #[.int .i64 0, .int .i64 0, .int .i64 0, .int .i64 0] 37 (0, 0))) ∧ (w.heap.size ≤ s_) ∧ (w.heap.size ≤ s_) ∧ (gb347 ≠ s_) ∧ (s_ ≠ gb347) ∧ (gb348 ≠ s_) ∧ (s_ ≠ gb348) ∧ (gb349 ≠ s_) ∧ (s_ ≠ gb349) ∧ (Below w.heap.size w w')) ?_ ?_
 rotate_left
 ·intro hCont
  refine two_ (i := 1) (j := 4) (Ni := some 8) (Nj := some 6) #[Zt,Zt,Zt,Zf,Zf,Zf] #[Zt,Zf,Zt,Zf,Zt,Zf] rfl rfl rfl rfl (by kernel_rfl) (by decide) (by decide) (fun K hK => ?_) (fun K hK => ?_)
  ·skip
   refine goes_ Try.func40 (by kernel_rfl) rfl #[.agg #[.int .i64 a0_0, .int .i64 a0_1, .int .i64 a0_2, .int .i64 a0_3, .int .i64 a0_4, .int .i64 a0_5, .int .i64 a0_6]] (by rfl) rfl rfl (by (try simp only [List.map_toArray, List.map_cons, List.map_nil]); first | done | rfl | (simp only [List.length_drop, List.length_take]; rfl)) ?_
   with_reducible refine (gatherumref38_Lies.calls k a0_0 a0_1 a0_2 a0_3 a0_4 a0_5 a0_6 t350 t351 t352 t353 _ A3.out).mono ?_
   rintro e w10 ⟨rfl, hb⟩
   refine ⟨_, rfl, ?_⟩
   have n0_ := Za (Xi (g := gb347) (o := .cells #[.int .i64 a0_0, .int .i64 a0_1, .int .i64 a0_2, .int .i64 a0_3, .int .i64 a0_4, .int .i64 a0_5, .int .i64 a0_6] 55 (0, 0)) (bb_15 BK347.out) hb)
   have n1_ := Za (Xi (g := gb348) (o := .cells #[.int .i64 a1_0, .int .i64 a1_1, .int .i64 a1_2, .int .i64 a1_3] 37 (0, 0)) (bb_15 BK348.out) hb)
   have n2_ := Za (Xi (g := gb349) (o := .cells #[.int .i64 0, .int .i64 0, .int .i64 0, .int .i64 0, .int .i64 0, .int .i64 0, .int .i64 0] 55 (0, 0)) (bb_15 BK349.out) hb)
   have n3_ := Za (below_step (hb_15 HB.out) hb)
   clear BK347
   clear BK348
   clear BK349
   clear HB
   have BK347 := n0_
   have BK348 := n1_
   have BK349 := n2_
   have HB := n3_
   clear n0_ n1_ n2_ n3_
   (try clear hb)
   (try clear hb2)
   (try clear hk)
   (try clear hi)
   refine hK.out _ _ ⟨(Xd BK347.out 0).trans rfl, (Xd BK347.out 1).trans rfl, (Xd BK347.out 2).trans rfl, (Xd BK347.out 3).trans rfl, (Xd BK347.out 4).trans rfl, (Xd BK347.out 5).trans rfl, (Xd BK347.out 6).trans rfl, (Xd BK348.out 0).trans rfl, (Xd BK348.out 1).trans rfl, (Xd BK348.out 2).trans rfl, (Xd BK348.out 3).trans rfl⟩ (fun hHeld => ?_)
   clear hK K
   refine norm_ (a' := ?_) ?_ ?_
   rotate_left
   ·show Act.put _ (some 8) _ = _
    simp only [Act.put, Xa, Xb, Xc, i64_w, i32_w]
    rfl
   refine two_ (i := 3) (j := 4) (Ni := some 10) (Nj := some 6) #[Zt,Zt,Zt,Zt,Zf,Zf] #[Zt,Zt,Zt,Zf,Zt,Zf] rfl rfl rfl rfl (by kernel_rfl) (by decide) (by decide) (fun K hK => ?_) (fun K hK => ?_)
   ·skip
    refine goes_ Try.func46 (by kernel_rfl) rfl #[.agg #[.int .i64 t350, .int .i64 t351, .int .i64 t352, .int .i64 t353], .agg #[.int .i64 a1_0, .int .i64 a1_1, .int .i64 a1_2, .int .i64 a1_3]] (by rfl) rfl rfl (by (try simp only [List.map_toArray, List.map_cons, List.map_nil]); first | done | rfl | (simp only [List.length_drop, List.length_take]; rfl)) ?_
    with_reducible refine (gatherumref04_Meet.calls t350 t351 t352 t353 a1_0 a1_1 a1_2 a1_3 t354 t355 t356 t357 _ A4.out).mono ?_
    rintro e w11 ⟨rfl, hb⟩
    refine ⟨_, rfl, ?_⟩
    have n0_ := Za (Xi (g := gb347) (o := .cells #[.int .i64 a0_0, .int .i64 a0_1, .int .i64 a0_2, .int .i64 a0_3, .int .i64 a0_4, .int .i64 a0_5, .int .i64 a0_6] 55 (0, 0)) (bb_15 BK347.out) hb)
    have n1_ := Za (Xi (g := gb348) (o := .cells #[.int .i64 a1_0, .int .i64 a1_1, .int .i64 a1_2, .int .i64 a1_3] 37 (0, 0)) (bb_15 BK348.out) hb)
    have n2_ := Za (Xi (g := gb349) (o := .cells #[.int .i64 0, .int .i64 0, .int .i64 0, .int .i64 0, .int .i64 0, .int .i64 0, .int .i64 0] 55 (0, 0)) (bb_15 BK349.out) hb)
    have n3_ := Za (below_step (hb_15 HB.out) hb)
    clear BK347
    clear BK348
    clear BK349
    clear HB
    have BK347 := n0_
    have BK348 := n1_
    have BK349 := n2_
    have HB := n3_
    clear n0_ n1_ n2_ n3_
    (try clear hb)
    (try clear hb2)
    (try clear hk)
    (try clear hi)
    refine hK.out _ _ ⟨(Xd BK347.out 0).trans rfl, (Xd BK347.out 1).trans rfl, (Xd BK347.out 2).trans rfl, (Xd BK347.out 3).trans rfl, (Xd BK347.out 4).trans rfl, (Xd BK347.out 5).trans rfl, (Xd BK347.out 6).trans rfl, (Xd BK348.out 0).trans rfl, (Xd BK348.out 1).trans rfl, (Xd BK348.out 2).trans rfl, (Xd BK348.out 3).trans rfl⟩ (fun hHeld => ?_)
    clear hK K
    refine norm_ (a' := ?_) ?_ ?_
    rotate_left
    ·show Act.put _ (some 10) _ = _
     simp only [Act.put, Xa, Xb, Xc, i64_w, i32_w]
     rfl
    refine one_ (i := 4) (N := some 6) #[Zt,Zt,Zt,Zt,Zt,Zf] rfl rfl (by kernel_rfl) (by decide) (fun K hK => ?_)
    refine box_step ?hg (N := 6) ?hd (cs := #[.int .i64 0, .int .i64 0, .int .i64 0, .int .i64 0]) (t := 37) ?hr ?_; (case hd => rfl); (case hg => rfl); (case hr => first | (go_simp; done) | (go_simp; rfl))
    intro gb358 hg w12 hbox hb
    have n0_ := Za (Xi (g := gb347) (o := .cells #[.int .i64 a0_0, .int .i64 a0_1, .int .i64 a0_2, .int .i64 a0_3, .int .i64 a0_4, .int .i64 a0_5, .int .i64 a0_6] 55 (0, 0)) (bb_15 BK347.out) hb)
    have n1_ := Za (Xi (g := gb348) (o := .cells #[.int .i64 a1_0, .int .i64 a1_1, .int .i64 a1_2, .int .i64 a1_3] 37 (0, 0)) (bb_15 BK348.out) hb)
    have n2_ := Za (Xi (g := gb349) (o := .cells #[.int .i64 0, .int .i64 0, .int .i64 0, .int .i64 0, .int .i64 0, .int .i64 0, .int .i64 0] 55 (0, 0)) (bb_15 BK349.out) hb)
    have n3_ := Za (below_step (hb_15 HB.out) hb)
    have n4_ := Za (hbox)
    have n5_ := Za ((by rw [hg]; exact (below_size (hb_15 HB.out)) : w.heap.size ≤ gb358))
    have n6_ := Za ((by rw [hg]; exact (below_size (hb_15 HB.out)) : w.heap.size ≤ gb358))
    have n7_ := Za ((by rw [hg]; exact Nat.ne_of_lt (blk_lt (g := gb347) (o := .cells #[.int .i64 a0_0, .int .i64 a0_1, .int .i64 a0_2, .int .i64 a0_3, .int .i64 a0_4, .int .i64 a0_5, .int .i64 a0_6] 55 (0, 0)) (bb_15 BK347.out)) : gb347 ≠ gb358))
    have n8_ := Za ((by rw [hg]; exact Nat.ne_of_gt (blk_lt (g := gb347) (o := .cells #[.int .i64 a0_0, .int .i64 a0_1, .int .i64 a0_2, .int .i64 a0_3, .int .i64 a0_4, .int .i64 a0_5, .int .i64 a0_6] 55 (0, 0)) (bb_15 BK347.out)) : gb358 ≠ gb347))
    have n9_ := Za ((by rw [hg]; exact Nat.ne_of_lt (blk_lt (g := gb348) (o := .cells #[.int .i64 a1_0, .int .i64 a1_1, .int .i64 a1_2, .int .i64 a1_3] 37 (0, 0)) (bb_15 BK348.out)) : gb348 ≠ gb358))
    have n10_ := Za ((by rw [hg]; exact Nat.ne_of_gt (blk_lt (g := gb348) (o := .cells #[.int .i64 a1_0, .int .i64 a1_1, .int .i64 a1_2, .int .i64 a1_3] 37 (0, 0)) (bb_15 BK348.out)) : gb358 ≠ gb348))
    have n11_ := Za ((by rw [hg]; exact Nat.ne_of_lt (blk_lt (g := gb349) (o := .cells #[.int .i64 0, .int .i64 0, .int .i64 0, .int .i64 0, .int .i64 0, .int .i64 0, .int .i64 0] 55 (0, 0)) (bb_15 BK349.out)) : gb349 ≠ gb358))
    have n12_ := Za ((by rw [hg]; exact Nat.ne_of_gt (blk_lt (g := gb349) (o := .cells #[.int .i64 0, .int .i64 0, .int .i64 0, .int .i64 0, .int .i64 0, .int .i64 0, .int .i64 0] 55 (0, 0)) (bb_15 BK349.out)) : gb358 ≠ gb349))
    clear BK347
    clear BK348
    clear BK349
    clear HB
    have BK347 := n0_
    have BK348 := n1_
    have BK349 := n2_
    have HB := n3_
    have BK358 := n4_
    have GW358 := n5_
    have GE358 := n6_
    have NB347_358 := n7_
    have NB358_347 := n8_
    have NB348_358 := n9_
    have NB358_348 := n10_
    have NB349_358 := n11_
    have NB358_349 := n12_
    clear n0_ n1_ n2_ n3_ n4_ n5_ n6_ n7_ n8_ n9_ n10_ n11_ n12_
    clear hb hbox hg
    refine hK.out _ _ ⟨(Xd BK347.out 0).trans rfl, (Xd BK347.out 1).trans rfl, (Xd BK347.out 2).trans rfl, (Xd BK347.out 3).trans rfl, (Xd BK347.out 4).trans rfl, (Xd BK347.out 5).trans rfl, (Xd BK347.out 6).trans rfl, (Xd BK348.out 0).trans rfl, (Xd BK348.out 1).trans rfl, (Xd BK348.out 2).trans rfl, (Xd BK348.out 3).trans rfl⟩ (fun hHeld => ?_)
    clear hK K
    refine norm_ (a' := ?_) ?_ ?_
    rotate_left
    ·show Act.put _ (some 6) _ = _
     simp only [Act.put, Xa, Xb, Xc, i64_w, i32_w]
     rfl
    exact norm_ (by simp only [putAll, Act.put, Xa, Xb, Xc]) (hCont (gb358) _ ⟨hHeld, (bb_15 BK347.out), (bb_15 BK348.out), (bb_15 BK349.out), (bb_15 BK358.out), GW358.out, GE358.out, NB347_358.out, NB358_347.out, NB348_358.out, NB358_348.out, NB349_358.out, NB358_349.out, (hb_15 HB.out)⟩)
   ·skip
    refine box_step ?hg (N := 6) ?hd (cs := #[.int .i64 0, .int .i64 0, .int .i64 0, .int .i64 0]) (t := 37) ?hr ?_; (case hd => rfl); (case hg => rfl); (case hr => first | (go_simp; done) | (go_simp; rfl))
    intro gb358 hg w11 hbox hb
    have n0_ := Za (Xi (g := gb347) (o := .cells #[.int .i64 a0_0, .int .i64 a0_1, .int .i64 a0_2, .int .i64 a0_3, .int .i64 a0_4, .int .i64 a0_5, .int .i64 a0_6] 55 (0, 0)) (bb_15 BK347.out) hb)
    have n1_ := Za (Xi (g := gb348) (o := .cells #[.int .i64 a1_0, .int .i64 a1_1, .int .i64 a1_2, .int .i64 a1_3] 37 (0, 0)) (bb_15 BK348.out) hb)
    have n2_ := Za (Xi (g := gb349) (o := .cells #[.int .i64 0, .int .i64 0, .int .i64 0, .int .i64 0, .int .i64 0, .int .i64 0, .int .i64 0] 55 (0, 0)) (bb_15 BK349.out) hb)
    have n3_ := Za (below_step (hb_15 HB.out) hb)
    have n4_ := Za (hbox)
    have n5_ := Za ((by rw [hg]; exact (below_size (hb_15 HB.out)) : w.heap.size ≤ gb358))
    have n6_ := Za ((by rw [hg]; exact (below_size (hb_15 HB.out)) : w.heap.size ≤ gb358))
    have n7_ := Za ((by rw [hg]; exact Nat.ne_of_lt (blk_lt (g := gb347) (o := .cells #[.int .i64 a0_0, .int .i64 a0_1, .int .i64 a0_2, .int .i64 a0_3, .int .i64 a0_4, .int .i64 a0_5, .int .i64 a0_6] 55 (0, 0)) (bb_15 BK347.out)) : gb347 ≠ gb358))
    have n8_ := Za ((by rw [hg]; exact Nat.ne_of_gt (blk_lt (g := gb347) (o := .cells #[.int .i64 a0_0, .int .i64 a0_1, .int .i64 a0_2, .int .i64 a0_3, .int .i64 a0_4, .int .i64 a0_5, .int .i64 a0_6] 55 (0, 0)) (bb_15 BK347.out)) : gb358 ≠ gb347))
    have n9_ := Za ((by rw [hg]; exact Nat.ne_of_lt (blk_lt (g := gb348) (o := .cells #[.int .i64 a1_0, .int .i64 a1_1, .int .i64 a1_2, .int .i64 a1_3] 37 (0, 0)) (bb_15 BK348.out)) : gb348 ≠ gb358))
    have n10_ := Za ((by rw [hg]; exact Nat.ne_of_gt (blk_lt (g := gb348) (o := .cells #[.int .i64 a1_0, .int .i64 a1_1, .int .i64 a1_2, .int .i64 a1_3] 37 (0, 0)) (bb_15 BK348.out)) : gb358 ≠ gb348))
    have n11_ := Za ((by rw [hg]; exact Nat.ne_of_lt (blk_lt (g := gb349) (o := .cells #[.int .i64 0, .int .i64 0, .int .i64 0, .int .i64 0, .int .i64 0, .int .i64 0, .int .i64 0] 55 (0, 0)) (bb_15 BK349.out)) : gb349 ≠ gb358))
    have n12_ := Za ((by rw [hg]; exact Nat.ne_of_gt (blk_lt (g := gb349) (o := .cells #[.int .i64 0, .int .i64 0, .int .i64 0, .int .i64 0, .int .i64 0, .int .i64 0, .int .i64 0] 55 (0, 0)) (bb_15 BK349.out)) : gb358 ≠ gb349))
    clear BK347
    clear BK348
    clear BK349
    clear HB
    have BK347 := n0_
    have BK348 := n1_
    have BK349 := n2_
    have HB := n3_
    have BK358 := n4_
    have GW358 := n5_
    have GE358 := n6_
    have NB347_358 := n7_
    have NB358_347 := n8_
    have NB348_358 := n9_
    have NB358_348 := n10_
    have NB349_358 := n11_
    have NB358_349 := n12_
    clear n0_ n1_ n2_ n3_ n4_ n5_ n6_ n7_ n8_ n9_ n10_ n11_ n12_
    clear hb hbox hg
    refine hK.out _ _ ⟨(Xd BK347.out 0).trans rfl, (Xd BK347.out 1).trans rfl, (Xd BK347.out 2).trans rfl, (Xd BK347.out 3).trans rfl, (Xd BK347.out 4).trans rfl, (Xd BK347.out 5).trans rfl, (Xd BK347.out 6).trans rfl, (Xd BK348.out 0).trans rfl, (Xd BK348.out 1).trans rfl, (Xd BK348.out 2).trans rfl, (Xd BK348.out 3).trans rfl⟩ (fun hHeld => ?_)
    clear hK K
    refine norm_ (a' := ?_) ?_ ?_
    rotate_left
    ·show Act.put _ (some 6) _ = _
     simp only [Act.put, Xa, Xb, Xc, i64_w, i32_w]
     rfl
    refine one_ (i := 3) (N := some 10) #[Zt,Zt,Zt,Zt,Zt,Zf] rfl rfl (by kernel_rfl) (by decide) (fun K hK => ?_)
    refine goes_ Try.func46 (by kernel_rfl) rfl #[.agg #[.int .i64 t350, .int .i64 t351, .int .i64 t352, .int .i64 t353], .agg #[.int .i64 a1_0, .int .i64 a1_1, .int .i64 a1_2, .int .i64 a1_3]] (by rfl) rfl rfl (by (try simp only [List.map_toArray, List.map_cons, List.map_nil]); first | done | rfl | (simp only [List.length_drop, List.length_take]; rfl)) ?_
    with_reducible refine (gatherumref04_Meet.calls t350 t351 t352 t353 a1_0 a1_1 a1_2 a1_3 t354 t355 t356 t357 _ A4.out).mono ?_
    rintro e w12 ⟨rfl, hb⟩
    refine ⟨_, rfl, ?_⟩
    have n0_ := Za (Xi (g := gb347) (o := .cells #[.int .i64 a0_0, .int .i64 a0_1, .int .i64 a0_2, .int .i64 a0_3, .int .i64 a0_4, .int .i64 a0_5, .int .i64 a0_6] 55 (0, 0)) (bb_15 BK347.out) hb)
    have n1_ := Za (Xi (g := gb348) (o := .cells #[.int .i64 a1_0, .int .i64 a1_1, .int .i64 a1_2, .int .i64 a1_3] 37 (0, 0)) (bb_15 BK348.out) hb)
    have n2_ := Za (Xi (g := gb349) (o := .cells #[.int .i64 0, .int .i64 0, .int .i64 0, .int .i64 0, .int .i64 0, .int .i64 0, .int .i64 0] 55 (0, 0)) (bb_15 BK349.out) hb)
    have n3_ := Za (Xi (g := gb358) (o := .cells #[.int .i64 0, .int .i64 0, .int .i64 0, .int .i64 0] 37 (0, 0)) (bb_15 BK358.out) hb)
    have n4_ := Za (below_step (hb_15 HB.out) hb)
    clear BK347
    clear BK348
    clear BK349
    clear BK358
    clear HB
    have BK347 := n0_
    have BK348 := n1_
    have BK349 := n2_
    have BK358 := n3_
    have HB := n4_
    clear n0_ n1_ n2_ n3_ n4_
    (try clear hb)
    (try clear hb2)
    (try clear hk)
    (try clear hi)
    refine hK.out _ _ ⟨(Xd BK347.out 0).trans rfl, (Xd BK347.out 1).trans rfl, (Xd BK347.out 2).trans rfl, (Xd BK347.out 3).trans rfl, (Xd BK347.out 4).trans rfl, (Xd BK347.out 5).trans rfl, (Xd BK347.out 6).trans rfl, (Xd BK348.out 0).trans rfl, (Xd BK348.out 1).trans rfl, (Xd BK348.out 2).trans rfl, (Xd BK348.out 3).trans rfl⟩ (fun hHeld => ?_)
    clear hK K
    refine norm_ (a' := ?_) ?_ ?_
    rotate_left
    ·show Act.put _ (some 10) _ = _
     simp only [Act.put, Xa, Xb, Xc, i64_w, i32_w]
     rfl
    exact norm_ (by simp only [putAll, Act.put, Xa, Xb, Xc]) (hCont (gb358) _ ⟨hHeld, (bb_15 BK347.out), (bb_15 BK348.out), (bb_15 BK349.out), (bb_15 BK358.out), GW358.out, GE358.out, NB347_358.out, NB358_347.out, NB348_358.out, NB358_348.out, NB349_358.out, NB358_349.out, (hb_15 HB.out)⟩)
  ·skip
   refine box_step ?hg (N := 6) ?hd (cs := #[.int .i64 0, .int .i64 0, .int .i64 0, .int .i64 0]) (t := 37) ?hr ?_; (case hd => rfl); (case hg => rfl); (case hr => first | (go_simp; done) | (go_simp; rfl))
   intro gb358 hg w10 hbox hb
   have n0_ := Za (Xi (g := gb347) (o := .cells #[.int .i64 a0_0, .int .i64 a0_1, .int .i64 a0_2, .int .i64 a0_3, .int .i64 a0_4, .int .i64 a0_5, .int .i64 a0_6] 55 (0, 0)) (bb_15 BK347.out) hb)
   have n1_ := Za (Xi (g := gb348) (o := .cells #[.int .i64 a1_0, .int .i64 a1_1, .int .i64 a1_2, .int .i64 a1_3] 37 (0, 0)) (bb_15 BK348.out) hb)
   have n2_ := Za (Xi (g := gb349) (o := .cells #[.int .i64 0, .int .i64 0, .int .i64 0, .int .i64 0, .int .i64 0, .int .i64 0, .int .i64 0] 55 (0, 0)) (bb_15 BK349.out) hb)
   have n3_ := Za (below_step (hb_15 HB.out) hb)
   have n4_ := Za (hbox)
   have n5_ := Za ((by rw [hg]; exact (below_size (hb_15 HB.out)) : w.heap.size ≤ gb358))
   have n6_ := Za ((by rw [hg]; exact (below_size (hb_15 HB.out)) : w.heap.size ≤ gb358))
   have n7_ := Za ((by rw [hg]; exact Nat.ne_of_lt (blk_lt (g := gb347) (o := .cells #[.int .i64 a0_0, .int .i64 a0_1, .int .i64 a0_2, .int .i64 a0_3, .int .i64 a0_4, .int .i64 a0_5, .int .i64 a0_6] 55 (0, 0)) (bb_15 BK347.out)) : gb347 ≠ gb358))
   have n8_ := Za ((by rw [hg]; exact Nat.ne_of_gt (blk_lt (g := gb347) (o := .cells #[.int .i64 a0_0, .int .i64 a0_1, .int .i64 a0_2, .int .i64 a0_3, .int .i64 a0_4, .int .i64 a0_5, .int .i64 a0_6] 55 (0, 0)) (bb_15 BK347.out)) : gb358 ≠ gb347))
   have n9_ := Za ((by rw [hg]; exact Nat.ne_of_lt (blk_lt (g := gb348) (o := .cells #[.int .i64 a1_0, .int .i64 a1_1, .int .i64 a1_2, .int .i64 a1_3] 37 (0, 0)) (bb_15 BK348.out)) : gb348 ≠ gb358))
   have n10_ := Za ((by rw [hg]; exact Nat.ne_of_gt (blk_lt (g := gb348) (o := .cells #[.int .i64 a1_0, .int .i64 a1_1, .int .i64 a1_2, .int .i64 a1_3] 37 (0, 0)) (bb_15 BK348.out)) : gb358 ≠ gb348))
   have n11_ := Za ((by rw [hg]; exact Nat.ne_of_lt (blk_lt (g := gb349) (o := .cells #[.int .i64 0, .int .i64 0, .int .i64 0, .int .i64 0, .int .i64 0, .int .i64 0, .int .i64 0] 55 (0, 0)) (bb_15 BK349.out)) : gb349 ≠ gb358))
   have n12_ := Za ((by rw [hg]; exact Nat.ne_of_gt (blk_lt (g := gb349) (o := .cells #[.int .i64 0, .int .i64 0, .int .i64 0, .int .i64 0, .int .i64 0, .int .i64 0, .int .i64 0] 55 (0, 0)) (bb_15 BK349.out)) : gb358 ≠ gb349))
   clear BK347
   clear BK348
   clear BK349
   clear HB
   have BK347 := n0_
   have BK348 := n1_
   have BK349 := n2_
   have HB := n3_
   have BK358 := n4_
   have GW358 := n5_
   have GE358 := n6_
   have NB347_358 := n7_
   have NB358_347 := n8_
   have NB348_358 := n9_
   have NB358_348 := n10_
   have NB349_358 := n11_
   have NB358_349 := n12_
   clear n0_ n1_ n2_ n3_ n4_ n5_ n6_ n7_ n8_ n9_ n10_ n11_ n12_
   clear hb hbox hg
   refine hK.out _ _ ⟨(Xd BK347.out 0).trans rfl, (Xd BK347.out 1).trans rfl, (Xd BK347.out 2).trans rfl, (Xd BK347.out 3).trans rfl, (Xd BK347.out 4).trans rfl, (Xd BK347.out 5).trans rfl, (Xd BK347.out 6).trans rfl, (Xd BK348.out 0).trans rfl, (Xd BK348.out 1).trans rfl, (Xd BK348.out 2).trans rfl, (Xd BK348.out 3).trans rfl⟩ (fun hHeld => ?_)
   clear hK K
   refine norm_ (a' := ?_) ?_ ?_
   rotate_left
   ·show Act.put _ (some 6) _ = _
    simp only [Act.put, Xa, Xb, Xc, i64_w, i32_w]
    rfl
   refine one_ (i := 1) (N := some 8) #[Zt,Zt,Zt,Zf,Zt,Zf] rfl rfl (by kernel_rfl) (by decide) (fun K hK => ?_)
   refine goes_ Try.func40 (by kernel_rfl) rfl #[.agg #[.int .i64 a0_0, .int .i64 a0_1, .int .i64 a0_2, .int .i64 a0_3, .int .i64 a0_4, .int .i64 a0_5, .int .i64 a0_6]] (by rfl) rfl rfl (by (try simp only [List.map_toArray, List.map_cons, List.map_nil]); first | done | rfl | (simp only [List.length_drop, List.length_take]; rfl)) ?_
   with_reducible refine (gatherumref38_Lies.calls k a0_0 a0_1 a0_2 a0_3 a0_4 a0_5 a0_6 t350 t351 t352 t353 _ A3.out).mono ?_
   rintro e w11 ⟨rfl, hb⟩
   refine ⟨_, rfl, ?_⟩
   have n0_ := Za (Xi (g := gb347) (o := .cells #[.int .i64 a0_0, .int .i64 a0_1, .int .i64 a0_2, .int .i64 a0_3, .int .i64 a0_4, .int .i64 a0_5, .int .i64 a0_6] 55 (0, 0)) (bb_15 BK347.out) hb)
   have n1_ := Za (Xi (g := gb348) (o := .cells #[.int .i64 a1_0, .int .i64 a1_1, .int .i64 a1_2, .int .i64 a1_3] 37 (0, 0)) (bb_15 BK348.out) hb)
   have n2_ := Za (Xi (g := gb349) (o := .cells #[.int .i64 0, .int .i64 0, .int .i64 0, .int .i64 0, .int .i64 0, .int .i64 0, .int .i64 0] 55 (0, 0)) (bb_15 BK349.out) hb)
   have n3_ := Za (Xi (g := gb358) (o := .cells #[.int .i64 0, .int .i64 0, .int .i64 0, .int .i64 0] 37 (0, 0)) (bb_15 BK358.out) hb)
   have n4_ := Za (below_step (hb_15 HB.out) hb)
   clear BK347
   clear BK348
   clear BK349
   clear BK358
   clear HB
   have BK347 := n0_
   have BK348 := n1_
   have BK349 := n2_
   have BK358 := n3_
   have HB := n4_
   clear n0_ n1_ n2_ n3_ n4_
   (try clear hb)
   (try clear hb2)
   (try clear hk)
   (try clear hi)
   refine hK.out _ _ ⟨(Xd BK347.out 0).trans rfl, (Xd BK347.out 1).trans rfl, (Xd BK347.out 2).trans rfl, (Xd BK347.out 3).trans rfl, (Xd BK347.out 4).trans rfl, (Xd BK347.out 5).trans rfl, (Xd BK347.out 6).trans rfl, (Xd BK348.out 0).trans rfl, (Xd BK348.out 1).trans rfl, (Xd BK348.out 2).trans rfl, (Xd BK348.out 3).trans rfl⟩ (fun hHeld => ?_)
   clear hK K
   refine norm_ (a' := ?_) ?_ ?_
   rotate_left
   ·show Act.put _ (some 8) _ = _
    simp only [Act.put, Xa, Xb, Xc, i64_w, i32_w]
    rfl
   refine one_ (i := 3) (N := some 10) #[Zt,Zt,Zt,Zt,Zt,Zf] rfl rfl (by kernel_rfl) (by decide) (fun K hK => ?_)
   refine goes_ Try.func46 (by kernel_rfl) rfl #[.agg #[.int .i64 t350, .int .i64 t351, .int .i64 t352, .int .i64 t353], .agg #[.int .i64 a1_0, .int .i64 a1_1, .int .i64 a1_2, .int .i64 a1_3]] (by rfl) rfl rfl (by (try simp only [List.map_toArray, List.map_cons, List.map_nil]); first | done | rfl | (simp only [List.length_drop, List.length_take]; rfl)) ?_
   with_reducible refine (gatherumref04_Meet.calls t350 t351 t352 t353 a1_0 a1_1 a1_2 a1_3 t354 t355 t356 t357 _ A4.out).mono ?_
   rintro e w12 ⟨rfl, hb⟩
   refine ⟨_, rfl, ?_⟩
   have n0_ := Za (Xi (g := gb347) (o := .cells #[.int .i64 a0_0, .int .i64 a0_1, .int .i64 a0_2, .int .i64 a0_3, .int .i64 a0_4, .int .i64 a0_5, .int .i64 a0_6] 55 (0, 0)) (bb_15 BK347.out) hb)
   have n1_ := Za (Xi (g := gb348) (o := .cells #[.int .i64 a1_0, .int .i64 a1_1, .int .i64 a1_2, .int .i64 a1_3] 37 (0, 0)) (bb_15 BK348.out) hb)
   have n2_ := Za (Xi (g := gb349) (o := .cells #[.int .i64 0, .int .i64 0, .int .i64 0, .int .i64 0, .int .i64 0, .int .i64 0, .int .i64 0] 55 (0, 0)) (bb_15 BK349.out) hb)
   have n3_ := Za (Xi (g := gb358) (o := .cells #[.int .i64 0, .int .i64 0, .int .i64 0, .int .i64 0] 37 (0, 0)) (bb_15 BK358.out) hb)
   have n4_ := Za (below_step (hb_15 HB.out) hb)
   clear BK347
   clear BK348
   clear BK349
   clear BK358
   clear HB
   have BK347 := n0_
   have BK348 := n1_
   have BK349 := n2_
   have BK358 := n3_
   have HB := n4_
   clear n0_ n1_ n2_ n3_ n4_
   (try clear hb)
   (try clear hb2)
   (try clear hk)
   (try clear hi)
   refine hK.out _ _ ⟨(Xd BK347.out 0).trans rfl, (Xd BK347.out 1).trans rfl, (Xd BK347.out 2).trans rfl, (Xd BK347.out 3).trans rfl, (Xd BK347.out 4).trans rfl, (Xd BK347.out 5).trans rfl, (Xd BK347.out 6).trans rfl, (Xd BK348.out 0).trans rfl, (Xd BK348.out 1).trans rfl, (Xd BK348.out 2).trans rfl, (Xd BK348.out 3).trans rfl⟩ (fun hHeld => ?_)
   clear hK K
   refine norm_ (a' := ?_) ?_ ?_
   rotate_left
   ·show Act.put _ (some 10) _ = _
    simp only [Act.put, Xa, Xb, Xc, i64_w, i32_w]
    rfl
   exact norm_ (by simp only [putAll, Act.put, Xa, Xb, Xc]) (hCont (gb358) _ ⟨hHeld, (bb_15 BK347.out), (bb_15 BK348.out), (bb_15 BK349.out), (bb_15 BK358.out), GW358.out, GE358.out, NB347_358.out, NB358_347.out, NB348_358.out, NB358_348.out, NB349_358.out, NB358_349.out, (hb_15 HB.out)⟩)
 rintro gb358 w13 ⟨hS_, h0_, h1_, h2_, h3_, h4_, h5_, h6_, h7_, h8_, h9_, h10_, h11_, h12_⟩
 have n0_ : Aside0 (w13.heap[gb347]? = some (.cells #[.int .i64 a0_0, .int .i64 a0_1, .int .i64 a0_2, .int .i64 a0_3, .int .i64 a0_4, .int .i64 a0_5, .int .i64 a0_6] 55 (0, 0))) := ⟨h0_⟩
 have n1_ : Aside0 (w13.heap[gb348]? = some (.cells #[.int .i64 a1_0, .int .i64 a1_1, .int .i64 a1_2, .int .i64 a1_3] 37 (0, 0))) := ⟨h1_⟩
 have n2_ : Aside0 (w13.heap[gb349]? = some (.cells #[.int .i64 0, .int .i64 0, .int .i64 0, .int .i64 0, .int .i64 0, .int .i64 0, .int .i64 0] 55 (0, 0))) := ⟨h2_⟩
 have n3_ : Aside0 (w13.heap[gb358]? = some (.cells #[.int .i64 0, .int .i64 0, .int .i64 0, .int .i64 0] 37 (0, 0))) := ⟨h3_⟩
 have n4_ : Aside0 (w.heap.size ≤ gb358) := ⟨h4_⟩
 have n5_ : Aside0 (w.heap.size ≤ gb358) := ⟨h5_⟩
 have n6_ : Aside0 (gb347 ≠ gb358) := ⟨h6_⟩
 have n7_ : Aside0 (gb358 ≠ gb347) := ⟨h7_⟩
 have n8_ : Aside0 (gb348 ≠ gb358) := ⟨h8_⟩
 have n9_ : Aside0 (gb358 ≠ gb348) := ⟨h9_⟩
 have n10_ : Aside0 (gb349 ≠ gb358) := ⟨h10_⟩
 have n11_ : Aside0 (gb358 ≠ gb349) := ⟨h11_⟩
 have n12_ : Aside0 (Below w.heap.size w w13) := ⟨h12_⟩
 clear BK347
 clear BK348
 clear BK349
 clear HB
 clear h0_ h1_ h2_ h3_ h4_ h5_ h6_ h7_ h8_ h9_ h10_ h11_ h12_
 have BK347 := n0_
 have BK348 := n1_
 have BK349 := n2_
 have BK358 := n3_
 have GW358 := n4_
 have GE358 := n5_
 have NB347_358 := n6_
 have NB358_347 := n7_
 have NB348_358 := n8_
 have NB358_348 := n9_
 have NB349_358 := n10_
 have NB358_349 := n11_
 have HB := n12_
 clear n0_ n1_ n2_ n3_ n4_ n5_ n6_ n7_ n8_ n9_ n10_ n11_ n12_
 have hHeld : w13.cell? ⟨gb347, 0, none⟩ = some (.int .i64 a0_0) ∧ w13.cell? ⟨gb347, 1, none⟩ = some (.int .i64 a0_1) ∧ w13.cell? ⟨gb347, 2, none⟩ = some (.int .i64 a0_2) ∧ w13.cell? ⟨gb347, 3, none⟩ = some (.int .i64 a0_3) ∧ w13.cell? ⟨gb347, 4, none⟩ = some (.int .i64 a0_4) ∧ w13.cell? ⟨gb347, 5, none⟩ = some (.int .i64 a0_5) ∧ w13.cell? ⟨gb347, 6, none⟩ = some (.int .i64 a0_6) ∧ w13.cell? ⟨gb348, 0, none⟩ = some (.int .i64 a1_0) ∧ w13.cell? ⟨gb348, 1, none⟩ = some (.int .i64 a1_1) ∧ w13.cell? ⟨gb348, 2, none⟩ = some (.int .i64 a1_2) ∧ w13.cell? ⟨gb348, 3, none⟩ = some (.int .i64 a1_3) := hS_
 refine norm_ (a' := ?_) ?_ ?_
 rotate_left
 ·simp only [putAll, Act.put, Xa, Xb, Xc]
  rfl
 refine one_ (i := 5) (N := none) #[Zt,Zt,Zt,Zt,Zt,Zt] rfl rfl (by kernel_rfl) (by decide) (fun K hK => ?_)
 have hs14 : w13.cell? ⟨gb358, 0, none⟩ = some (.int .i64 0) := (Xd BK358.out 0).trans rfl
 have hfs14 := Xj BK358.out 0
 have hns14_0 := NB347_358.out
 have hns14_1 := NB348_358.out
 have hns14_2 := NB349_358.out
 have hms14_0 := NB358_347.out
 have hms14_1 := NB358_348.out
 have hms14_2 := NB358_349.out
 have hs15 : w13.cell? ⟨gb358, 1, none⟩ = some (.int .i64 0) := (Xd BK358.out 1).trans rfl
 have hfs15 := Xj BK358.out 1
 have hns15_0 := NB347_358.out
 have hns15_1 := NB348_358.out
 have hns15_2 := NB349_358.out
 have hms15_0 := NB358_347.out
 have hms15_1 := NB358_348.out
 have hms15_2 := NB358_349.out
 have hs16 : w13.cell? ⟨gb358, 2, none⟩ = some (.int .i64 0) := (Xd BK358.out 2).trans rfl
 have hfs16 := Xj BK358.out 2
 have hns16_0 := NB347_358.out
 have hns16_1 := NB348_358.out
 have hns16_2 := NB349_358.out
 have hms16_0 := NB358_347.out
 have hms16_1 := NB358_348.out
 have hms16_2 := NB358_349.out
 have hs17 : w13.cell? ⟨gb358, 3, none⟩ = some (.int .i64 0) := (Xd BK358.out 3).trans rfl
 have hfs17 := Xj BK358.out 3
 have hns17_0 := NB347_358.out
 have hns17_1 := NB348_358.out
 have hns17_2 := NB349_358.out
 have hms17_0 := NB358_347.out
 have hms17_1 := NB358_348.out
 have hms17_2 := NB358_349.out
 refine skip_ (w1 := ?_) (by rfl) rfl ?_ ?_
 rotate_left
 ·go_simp
  rfl
 refine hK.out _ _ ⟨((Xe (p := ⟨gb358, _, none⟩) NB347_358.out _).trans (((Xe (p := ⟨gb358, _, none⟩) NB347_358.out _).trans (((Xe (p := ⟨gb358, _, none⟩) NB347_358.out _).trans (((Xe (p := ⟨gb358, _, none⟩) NB347_358.out _).trans (hHeld.1)))))))), ((Xe (p := ⟨gb358, _, none⟩) NB347_358.out _).trans (((Xe (p := ⟨gb358, _, none⟩) NB347_358.out _).trans (((Xe (p := ⟨gb358, _, none⟩) NB347_358.out _).trans (((Xe (p := ⟨gb358, _, none⟩) NB347_358.out _).trans (hHeld.2.1)))))))), ((Xe (p := ⟨gb358, _, none⟩) NB347_358.out _).trans (((Xe (p := ⟨gb358, _, none⟩) NB347_358.out _).trans (((Xe (p := ⟨gb358, _, none⟩) NB347_358.out _).trans (((Xe (p := ⟨gb358, _, none⟩) NB347_358.out _).trans (hHeld.2.2.1)))))))), ((Xe (p := ⟨gb358, _, none⟩) NB347_358.out _).trans (((Xe (p := ⟨gb358, _, none⟩) NB347_358.out _).trans (((Xe (p := ⟨gb358, _, none⟩) NB347_358.out _).trans (((Xe (p := ⟨gb358, _, none⟩) NB347_358.out _).trans (hHeld.2.2.2.1)))))))), ((Xe (p := ⟨gb358, _, none⟩) NB347_358.out _).trans (((Xe (p := ⟨gb358, _, none⟩) NB347_358.out _).trans (((Xe (p := ⟨gb358, _, none⟩) NB347_358.out _).trans (((Xe (p := ⟨gb358, _, none⟩) NB347_358.out _).trans (hHeld.2.2.2.2.1)))))))), ((Xe (p := ⟨gb358, _, none⟩) NB347_358.out _).trans (((Xe (p := ⟨gb358, _, none⟩) NB347_358.out _).trans (((Xe (p := ⟨gb358, _, none⟩) NB347_358.out _).trans (((Xe (p := ⟨gb358, _, none⟩) NB347_358.out _).trans (hHeld.2.2.2.2.2.1)))))))), ((Xe (p := ⟨gb358, _, none⟩) NB347_358.out _).trans (((Xe (p := ⟨gb358, _, none⟩) NB347_358.out _).trans (((Xe (p := ⟨gb358, _, none⟩) NB347_358.out _).trans (((Xe (p := ⟨gb358, _, none⟩) NB347_358.out _).trans (hHeld.2.2.2.2.2.2.1)))))))), ((Xe (p := ⟨gb358, _, none⟩) NB348_358.out _).trans (((Xe (p := ⟨gb358, _, none⟩) NB348_358.out _).trans (((Xe (p := ⟨gb358, _, none⟩) NB348_358.out _).trans (((Xe (p := ⟨gb358, _, none⟩) NB348_358.out _).trans (hHeld.2.2.2.2.2.2.2.1)))))))), ((Xe (p := ⟨gb358, _, none⟩) NB348_358.out _).trans (((Xe (p := ⟨gb358, _, none⟩) NB348_358.out _).trans (((Xe (p := ⟨gb358, _, none⟩) NB348_358.out _).trans (((Xe (p := ⟨gb358, _, none⟩) NB348_358.out _).trans (hHeld.2.2.2.2.2.2.2.2.1)))))))), ((Xe (p := ⟨gb358, _, none⟩) NB348_358.out _).trans (((Xe (p := ⟨gb358, _, none⟩) NB348_358.out _).trans (((Xe (p := ⟨gb358, _, none⟩) NB348_358.out _).trans (((Xe (p := ⟨gb358, _, none⟩) NB348_358.out _).trans (hHeld.2.2.2.2.2.2.2.2.2.1)))))))), ((Xe (p := ⟨gb358, _, none⟩) NB348_358.out _).trans (((Xe (p := ⟨gb358, _, none⟩) NB348_358.out _).trans (((Xe (p := ⟨gb358, _, none⟩) NB348_358.out _).trans (((Xe (p := ⟨gb358, _, none⟩) NB348_358.out _).trans (hHeld.2.2.2.2.2.2.2.2.2.2))))))))⟩ (fun hHeld => ?_)
 clear hK K
 refine done_ (by kernel_rfl) ?_
 go_upto_region 2 with (fail)
 go_cut [17] (fun v17 wc => ∃ (kq : Nat) (x17_4 : Bool), v17 = .bool x17_4 ∧ Aside0 (gatherumref38_Keep.j0 kq x17_4 a0_0 a0_1 a0_2 a0_3 a0_4 a0_5 a0_6 t354 t355 t356 t357 = some (r1, r2, r3, r4, r5, r6, r7, r8)) ∧ Aside0 (kq ≤ k) ∧ Aside0 (wc.heap[gb347]? = some (.cells #[.int .i64 a0_0, .int .i64 a0_1, .int .i64 a0_2, .int .i64 a0_3, .int .i64 a0_4, .int .i64 a0_5, .int .i64 a0_6] 55 (0, 0))) ∧ Aside0 (wc.heap[gb348]? = some (.cells #[.int .i64 a1_0, .int .i64 a1_1, .int .i64 a1_2, .int .i64 a1_3] 37 (0, 0))) ∧ Aside0 (wc.heap[gb349]? = some (.cells #[.int .i64 0, .int .i64 0, .int .i64 0, .int .i64 0, .int .i64 0, .int .i64 0, .int .i64 0] 55 (0, 0))) ∧ Aside0 (wc.heap[gb358]? = some (.cells #[.int .i64 t354, .int .i64 t355, .int .i64 t356, .int .i64 t357] 37 (0, 0))) ∧ Aside0 (Below w.heap.size w wc))
 case first =>
  have H := HC5.out
  clear HC5
  replace H := Option.bind_eq_some_iff.mp H
  obtain ⟨t359, A180, H⟩ := H
  replace H : (if t359 = Zt then (gatherumref38_Keep.j0 k Zt a0_0 a0_1 a0_2 a0_3 a0_4 a0_5 a0_6 t354 t355 t356 t357) else ((gatherumref04_Empty.f t354 t355 t356 t357).bind fun t360 => (gatherumref38_Keep.j0 k t360 a0_0 a0_1 a0_2 a0_3 a0_4 a0_5 a0_6 t354 t355 t356 t357))) = some (r1, r2, r3, r4, r5, r6, r7, r8) := H
  have A18 := Za A180
  clear A180
  by_cases c19 : t359 = Zt
  ·subst c19
   have H1 : (gatherumref38_Keep.j0 k Zt a0_0 a0_1 a0_2 a0_3 a0_4 a0_5 a0_6 t354 t355 t356 t357) = some (r1, r2, r3, r4, r5, r6, r7, r8) := by rw [if_pos rfl] at H; exact H
   clear H
   have H := H1
   clear H1
   have H' := Za H
   clear H
   have hnb20 := NB347_348.out
   have hnc20 := NB348_347.out
   have hnb21 := NB347_349.out
   have hnc21 := NB349_347.out
   have hnb22 := NB347_358.out
   have hnc22 := NB358_347.out
   have hcz23_0 : w13.cell? ⟨gb347, 0, none⟩ = some (.int .i64 a0_0) := (Xd BK347.out 0).trans rfl
   have hcz23_1 : w13.cell? ⟨gb347, 1, none⟩ = some (.int .i64 a0_1) := (Xd BK347.out 1).trans rfl
   have hcz23_2 : w13.cell? ⟨gb347, 2, none⟩ = some (.int .i64 a0_2) := (Xd BK347.out 2).trans rfl
   have hcz23_3 : w13.cell? ⟨gb347, 3, none⟩ = some (.int .i64 a0_3) := (Xd BK347.out 3).trans rfl
   have hcz23_4 : w13.cell? ⟨gb347, 4, none⟩ = some (.int .i64 a0_4) := (Xd BK347.out 4).trans rfl
   have hcz23_5 : w13.cell? ⟨gb347, 5, none⟩ = some (.int .i64 a0_5) := (Xd BK347.out 5).trans rfl
   have hcz23_6 : w13.cell? ⟨gb347, 6, none⟩ = some (.int .i64 a0_6) := (Xd BK347.out 6).trans rfl
   have hfz23_0 := Xj BK347.out 0
   have hfz23_1 := Xj BK347.out 1
   have hfz23_2 := Xj BK347.out 2
   have hfz23_3 := Xj BK347.out 3
   have hfz23_4 := Xj BK347.out 4
   have hfz23_5 := Xj BK347.out 5
   have hfz23_6 := Xj BK347.out 6
   go_wp2_with (first | ((with_reducible refine gate_callee (f := 18) rfl ?_); refine goesL_ (some 13) rfl rfl Try.func18 (by kernel_rfl) rfl #[.agg #[.int .i64 a0_0, .int .i64 a0_1, .int .i64 a0_2, .int .i64 a0_3]] rfl (by (try simp only [List.map_toArray, List.map_cons, List.map_nil]); first | done | rfl | (simp only [List.length_drop, List.length_take]; rfl)) ?_; (with_reducible refine (gatherumref04_Empty.calls a0_0 a0_1 a0_2 a0_3 Zt _ A18.out).mono ?_); rintro e w24 ⟨rfl, hb⟩; refine ⟨_, rfl, ?_⟩; have n0_ := Za (Xi (g := gb347) (o := .cells #[.int .i64 a0_0, .int .i64 a0_1, .int .i64 a0_2, .int .i64 a0_3, .int .i64 a0_4, .int .i64 a0_5, .int .i64 a0_6] 55 (0, 0)) (by (with_reducible repeat (first | refine Xf ?_ _ | refine Xh ?_ | refine Xg ?_ _)); refine blk_far ?_ NB347_358.out _; (with_reducible repeat (first | refine Xf ?_ _ | refine Xh ?_ | refine Xg ?_ _)); refine blk_far ?_ NB347_358.out _; (with_reducible repeat (first | refine Xf ?_ _ | refine Xh ?_ | refine Xg ?_ _)); refine blk_far ?_ NB347_358.out _; (with_reducible repeat (first | refine Xf ?_ _ | refine Xh ?_ | refine Xg ?_ _)); refine blk_far ?_ NB347_358.out _; (with_reducible repeat (first | refine Xf ?_ _ | refine Xh ?_ | refine Xg ?_ _)); exact BK347.out) hb); have n1_ := Za (Xi (g := gb348) (o := .cells #[.int .i64 a1_0, .int .i64 a1_1, .int .i64 a1_2, .int .i64 a1_3] 37 (0, 0)) (by (with_reducible repeat (first | refine Xf ?_ _ | refine Xh ?_ | refine Xg ?_ _)); refine blk_far ?_ NB348_358.out _; (with_reducible repeat (first | refine Xf ?_ _ | refine Xh ?_ | refine Xg ?_ _)); refine blk_far ?_ NB348_358.out _; (with_reducible repeat (first | refine Xf ?_ _ | refine Xh ?_ | refine Xg ?_ _)); refine blk_far ?_ NB348_358.out _; (with_reducible repeat (first | refine Xf ?_ _ | refine Xh ?_ | refine Xg ?_ _)); refine blk_far ?_ NB348_358.out _; (with_reducible repeat (first | refine Xf ?_ _ | refine Xh ?_ | refine Xg ?_ _)); exact BK348.out) hb); have n2_ := Za (Xi (g := gb349) (o := .cells #[.int .i64 0, .int .i64 0, .int .i64 0, .int .i64 0, .int .i64 0, .int .i64 0, .int .i64 0] 55 (0, 0)) (by (with_reducible repeat (first | refine Xf ?_ _ | refine Xh ?_ | refine Xg ?_ _)); refine blk_far ?_ NB349_358.out _; (with_reducible repeat (first | refine Xf ?_ _ | refine Xh ?_ | refine Xg ?_ _)); refine blk_far ?_ NB349_358.out _; (with_reducible repeat (first | refine Xf ?_ _ | refine Xh ?_ | refine Xg ?_ _)); refine blk_far ?_ NB349_358.out _; (with_reducible repeat (first | refine Xf ?_ _ | refine Xh ?_ | refine Xg ?_ _)); refine blk_far ?_ NB349_358.out _; (with_reducible repeat (first | refine Xf ?_ _ | refine Xh ?_ | refine Xg ?_ _)); exact BK349.out) hb); have n3_ := Za (Xi (g := gb358) (o := .cells #[.int .i64 t354, .int .i64 t355, .int .i64 t356, .int .i64 t357] 37 (0, 0)) (by (with_reducible repeat (first | refine Xf ?_ _ | refine Xh ?_ | refine Xg ?_ _)); refine blk_put (cs := #[.int .i64 t354, .int .i64 t355, .int .i64 t356, .int .i64 0]) ?_ 3 _ rfl; (with_reducible repeat (first | refine Xf ?_ _ | refine Xh ?_ | refine Xg ?_ _)); refine blk_put (cs := #[.int .i64 t354, .int .i64 t355, .int .i64 0, .int .i64 0]) ?_ 2 _ rfl; (with_reducible repeat (first | refine Xf ?_ _ | refine Xh ?_ | refine Xg ?_ _)); refine blk_put (cs := #[.int .i64 t354, .int .i64 0, .int .i64 0, .int .i64 0]) ?_ 1 _ rfl; (with_reducible repeat (first | refine Xf ?_ _ | refine Xh ?_ | refine Xg ?_ _)); refine blk_put (cs := #[.int .i64 0, .int .i64 0, .int .i64 0, .int .i64 0]) ?_ 0 _ rfl; (with_reducible repeat (first | refine Xf ?_ _ | refine Xh ?_ | refine Xg ?_ _)); exact BK358.out) hb); have n4_ := Za (below_step (hb_15 HB.out) hb); clear BK347; clear BK348; clear BK349; clear BK358; clear HB; have BK347 := n0_; have BK348 := n1_; have BK349 := n2_; have BK358 := n3_; have HB := n4_; clear n0_ n1_ n2_ n3_ n4_; (try clear hb); (try clear hb2); (try clear hk); (try clear hi)))
   go_meet
   case rel => exact ⟨_, (Zt), (by first | rfl | (simp; done) | (simp [*]; done)), H', ⟨by first | omega | exact Nat.le_refl _⟩, ⟨by (with_reducible repeat (first | refine Xf ?_ _ | refine Xh ?_ | refine Xg ?_ _)); exact BK347.out⟩, ⟨by (with_reducible repeat (first | refine Xf ?_ _ | refine Xh ?_ | refine Xg ?_ _)); exact BK348.out⟩, ⟨by (with_reducible repeat (first | refine Xf ?_ _ | refine Xh ?_ | refine Xg ?_ _)); exact BK349.out⟩, ⟨by (with_reducible repeat (first | refine Xf ?_ _ | refine Xh ?_ | refine Xg ?_ _)); exact BK358.out⟩, ⟨by repeat (first | (with_reducible first | exact HB.out | apply below_alloc | apply pw_below_drewN | apply below_drew1 | refine below_set ?_ GE347.out | refine below_set ?_ GE348.out | refine below_set ?_ GE349.out | refine below_set ?_ GE358.out) | exact HB.out)⟩⟩
  ·replace c19 := Bool.eq_false_iff.mpr c19
   subst c19
   have H1 : ((gatherumref04_Empty.f t354 t355 t356 t357).bind fun t360 => (gatherumref38_Keep.j0 k t360 a0_0 a0_1 a0_2 a0_3 a0_4 a0_5 a0_6 t354 t355 t356 t357)) = some (r1, r2, r3, r4, r5, r6, r7, r8) := by rw [if_neg (show ¬ (Zf = Zt) by decide)] at H; exact H
   clear H
   have H := H1
   clear H1
   replace H := Option.bind_eq_some_iff.mp H
   obtain ⟨t360, A250, H⟩ := H
   replace H : (gatherumref38_Keep.j0 k t360 a0_0 a0_1 a0_2 a0_3 a0_4 a0_5 a0_6 t354 t355 t356 t357) = some (r1, r2, r3, r4, r5, r6, r7, r8) := H
   have A25 := Za A250
   clear A250
   have H' := Za H
   clear H
   have hnb26 := NB347_348.out
   have hnc26 := NB348_347.out
   have hnb27 := NB347_349.out
   have hnc27 := NB349_347.out
   have hnb28 := NB347_358.out
   have hnc28 := NB358_347.out
   have hcz29_0 : w13.cell? ⟨gb347, 0, none⟩ = some (.int .i64 a0_0) := (Xd BK347.out 0).trans rfl
   have hcz29_1 : w13.cell? ⟨gb347, 1, none⟩ = some (.int .i64 a0_1) := (Xd BK347.out 1).trans rfl
   have hcz29_2 : w13.cell? ⟨gb347, 2, none⟩ = some (.int .i64 a0_2) := (Xd BK347.out 2).trans rfl
   have hcz29_3 : w13.cell? ⟨gb347, 3, none⟩ = some (.int .i64 a0_3) := (Xd BK347.out 3).trans rfl
   have hcz29_4 : w13.cell? ⟨gb347, 4, none⟩ = some (.int .i64 a0_4) := (Xd BK347.out 4).trans rfl
   have hcz29_5 : w13.cell? ⟨gb347, 5, none⟩ = some (.int .i64 a0_5) := (Xd BK347.out 5).trans rfl
   have hcz29_6 : w13.cell? ⟨gb347, 6, none⟩ = some (.int .i64 a0_6) := (Xd BK347.out 6).trans rfl
   have hfz29_0 := Xj BK347.out 0
   have hfz29_1 := Xj BK347.out 1
   have hfz29_2 := Xj BK347.out 2
   have hfz29_3 := Xj BK347.out 3
   have hfz29_4 := Xj BK347.out 4
   have hfz29_5 := Xj BK347.out 5
   have hfz29_6 := Xj BK347.out 6
   go_wp2_with (first | ((with_reducible refine gate_callee (f := 18) rfl ?_); refine goesL_ (some 13) rfl rfl Try.func18 (by kernel_rfl) rfl #[.agg #[.int .i64 a0_0, .int .i64 a0_1, .int .i64 a0_2, .int .i64 a0_3]] rfl (by (try simp only [List.map_toArray, List.map_cons, List.map_nil]); first | done | rfl | (simp only [List.length_drop, List.length_take]; rfl)) ?_; (with_reducible refine (gatherumref04_Empty.calls a0_0 a0_1 a0_2 a0_3 Zf _ A18.out).mono ?_); rintro e w30 ⟨rfl, hb⟩; refine ⟨_, rfl, ?_⟩; have n0_ := Za (Xi (g := gb347) (o := .cells #[.int .i64 a0_0, .int .i64 a0_1, .int .i64 a0_2, .int .i64 a0_3, .int .i64 a0_4, .int .i64 a0_5, .int .i64 a0_6] 55 (0, 0)) (by (with_reducible repeat (first | refine Xf ?_ _ | refine Xh ?_ | refine Xg ?_ _)); refine blk_far ?_ NB347_358.out _; (with_reducible repeat (first | refine Xf ?_ _ | refine Xh ?_ | refine Xg ?_ _)); refine blk_far ?_ NB347_358.out _; (with_reducible repeat (first | refine Xf ?_ _ | refine Xh ?_ | refine Xg ?_ _)); refine blk_far ?_ NB347_358.out _; (with_reducible repeat (first | refine Xf ?_ _ | refine Xh ?_ | refine Xg ?_ _)); refine blk_far ?_ NB347_358.out _; (with_reducible repeat (first | refine Xf ?_ _ | refine Xh ?_ | refine Xg ?_ _)); exact BK347.out) hb); have n1_ := Za (Xi (g := gb348) (o := .cells #[.int .i64 a1_0, .int .i64 a1_1, .int .i64 a1_2, .int .i64 a1_3] 37 (0, 0)) (by (with_reducible repeat (first | refine Xf ?_ _ | refine Xh ?_ | refine Xg ?_ _)); refine blk_far ?_ NB348_358.out _; (with_reducible repeat (first | refine Xf ?_ _ | refine Xh ?_ | refine Xg ?_ _)); refine blk_far ?_ NB348_358.out _; (with_reducible repeat (first | refine Xf ?_ _ | refine Xh ?_ | refine Xg ?_ _)); refine blk_far ?_ NB348_358.out _; (with_reducible repeat (first | refine Xf ?_ _ | refine Xh ?_ | refine Xg ?_ _)); refine blk_far ?_ NB348_358.out _; (with_reducible repeat (first | refine Xf ?_ _ | refine Xh ?_ | refine Xg ?_ _)); exact BK348.out) hb); have n2_ := Za (Xi (g := gb349) (o := .cells #[.int .i64 0, .int .i64 0, .int .i64 0, .int .i64 0, .int .i64 0, .int .i64 0, .int .i64 0] 55 (0, 0)) (by (with_reducible repeat (first | refine Xf ?_ _ | refine Xh ?_ | refine Xg ?_ _)); refine blk_far ?_ NB349_358.out _; (with_reducible repeat (first | refine Xf ?_ _ | refine Xh ?_ | refine Xg ?_ _)); refine blk_far ?_ NB349_358.out _; (with_reducible repeat (first | refine Xf ?_ _ | refine Xh ?_ | refine Xg ?_ _)); refine blk_far ?_ NB349_358.out _; (with_reducible repeat (first | refine Xf ?_ _ | refine Xh ?_ | refine Xg ?_ _)); refine blk_far ?_ NB349_358.out _; (with_reducible repeat (first | refine Xf ?_ _ | refine Xh ?_ | refine Xg ?_ _)); exact BK349.out) hb); have n3_ := Za (Xi (g := gb358) (o := .cells #[.int .i64 t354, .int .i64 t355, .int .i64 t356, .int .i64 t357] 37 (0, 0)) (by (with_reducible repeat (first | refine Xf ?_ _ | refine Xh ?_ | refine Xg ?_ _)); refine blk_put (cs := #[.int .i64 t354, .int .i64 t355, .int .i64 t356, .int .i64 0]) ?_ 3 _ rfl; (with_reducible repeat (first | refine Xf ?_ _ | refine Xh ?_ | refine Xg ?_ _)); refine blk_put (cs := #[.int .i64 t354, .int .i64 t355, .int .i64 0, .int .i64 0]) ?_ 2 _ rfl; (with_reducible repeat (first | refine Xf ?_ _ | refine Xh ?_ | refine Xg ?_ _)); refine blk_put (cs := #[.int .i64 t354, .int .i64 0, .int .i64 0, .int .i64 0]) ?_ 1 _ rfl; (with_reducible repeat (first | refine Xf ?_ _ | refine Xh ?_ | refine Xg ?_ _)); refine blk_put (cs := #[.int .i64 0, .int .i64 0, .int .i64 0, .int .i64 0]) ?_ 0 _ rfl; (with_reducible repeat (first | refine Xf ?_ _ | refine Xh ?_ | refine Xg ?_ _)); exact BK358.out) hb); have n4_ := Za (below_step (hb_15 HB.out) hb); clear BK347; clear BK348; clear BK349; clear BK358; clear HB; have BK347 := n0_; have BK348 := n1_; have BK349 := n2_; have BK358 := n3_; have HB := n4_; clear n0_ n1_ n2_ n3_ n4_; (try clear hb); (try clear hb2); (try clear hk); (try clear hi); have hnb31 := NB358_348.out; have hnc31 := NB348_358.out; have hnb32 := NB358_349.out; have hnc32 := NB349_358.out; have hcz33_0 : w30.cell? ⟨gb358, 0, none⟩ = some (.int .i64 t354) := (Xd BK358.out 0).trans rfl; have hcz33_1 : w30.cell? ⟨gb358, 1, none⟩ = some (.int .i64 t355) := (Xd BK358.out 1).trans rfl; have hcz33_2 : w30.cell? ⟨gb358, 2, none⟩ = some (.int .i64 t356) := (Xd BK358.out 2).trans rfl; have hcz33_3 : w30.cell? ⟨gb358, 3, none⟩ = some (.int .i64 t357) := (Xd BK358.out 3).trans rfl; have hfz33_0 := Xj BK358.out 0; have hfz33_1 := Xj BK358.out 1; have hfz33_2 := Xj BK358.out 2; have hfz33_3 := Xj BK358.out 3) | (go_at_call 18; (with_reducible refine (gatherumref04_Empty.calls t354 t355 t356 t357 t360 _ A25.out).mono ?_); rintro e w34 ⟨rfl, hb⟩; have n0_ := Za (Xi (g := gb347) (o := .cells #[.int .i64 a0_0, .int .i64 a0_1, .int .i64 a0_2, .int .i64 a0_3, .int .i64 a0_4, .int .i64 a0_5, .int .i64 a0_6] 55 (0, 0)) (bb_15 BK347.out) hb); have n1_ := Za (Xi (g := gb348) (o := .cells #[.int .i64 a1_0, .int .i64 a1_1, .int .i64 a1_2, .int .i64 a1_3] 37 (0, 0)) (bb_15 BK348.out) hb); have n2_ := Za (Xi (g := gb349) (o := .cells #[.int .i64 0, .int .i64 0, .int .i64 0, .int .i64 0, .int .i64 0, .int .i64 0, .int .i64 0] 55 (0, 0)) (bb_15 BK349.out) hb); have n3_ := Za (Xi (g := gb358) (o := .cells #[.int .i64 t354, .int .i64 t355, .int .i64 t356, .int .i64 t357] 37 (0, 0)) (bb_15 BK358.out) hb); have n4_ := Za (below_step (hb_15 HB.out) hb); clear BK347; clear BK348; clear BK349; clear BK358; clear HB; have BK347 := n0_; have BK348 := n1_; have BK349 := n2_; have BK358 := n3_; have HB := n4_; clear n0_ n1_ n2_ n3_ n4_; (try clear hb); (try clear hb2); (try clear hk); (try clear hi)))
   go_meet
   case rel => exact ⟨_, (t360), (by first | rfl | (simp; done) | (simp [*]; done)), H', ⟨by first | omega | exact Nat.le_refl _⟩, ⟨by (with_reducible repeat (first | refine Xf ?_ _ | refine Xh ?_ | refine Xg ?_ _)); exact BK347.out⟩, ⟨by (with_reducible repeat (first | refine Xf ?_ _ | refine Xh ?_ | refine Xg ?_ _)); exact BK348.out⟩, ⟨by (with_reducible repeat (first | refine Xf ?_ _ | refine Xh ?_ | refine Xg ?_ _)); exact BK349.out⟩, ⟨by (with_reducible repeat (first | refine Xf ?_ _ | refine Xh ?_ | refine Xg ?_ _)); exact BK358.out⟩, ⟨by repeat (first | (with_reducible first | exact HB.out | apply below_alloc | apply pw_below_drewN | apply below_drew1 | refine below_set ?_ GE347.out | refine below_set ?_ GE348.out | refine below_set ?_ GE349.out | refine below_set ?_ GE358.out) | exact HB.out)⟩⟩
 case rest =>
  clear HC5
  try clear c1
  try clear c2
  try clear p2
  try clear c3
  try clear c4
  try clear c6
  try clear c18
  try clear c19
  try clear c20
  try clear c21
  try clear c22
  try clear c26
  try clear c27
  try clear c28
  try clear c31
  try clear c32
  try clear hcz23_0
  try clear hcz23_1
  try clear hcz23_2
  try clear hcz23_3
  try clear hcz23_4
  try clear hcz23_5
  try clear hcz23_6
  try clear hcz29_0
  try clear hcz29_1
  try clear hcz29_2
  try clear hcz29_3
  try clear hcz29_4
  try clear hcz29_5
  try clear hcz29_6
  try clear hcz33_0
  try clear hcz33_1
  try clear hcz33_2
  try clear hcz33_3
  try clear hfz23_0
  try clear hfz23_1
  try clear hfz23_2
  try clear hfz23_3
  try clear hfz23_4
  try clear hfz23_5
  try clear hfz23_6
  try clear hfz29_0
  try clear hfz29_1
  try clear hfz29_2
  try clear hfz29_3
  try clear hfz29_4
  try clear hfz29_5
  try clear hfz29_6
  try clear hfz33_0
  try clear hfz33_1
  try clear hfz33_2
  try clear hfz33_3
  obtain ⟨kq, x17_4, rfl, HA, HJ4, BK347, BK348, BK349, BK358, HB⟩ := hcut
  cases kq with
  | zero => exact absurd HA.out (by simp [gatherumref38_Keep.j0])
  | succ kj4 =>
   have H := HA.out
   clear HA
   simp only [gatherumref38_Keep.j0] at H
   by_cases c35 : x17_4 = Zt
   ·subst c35
    have H1 : (some (0, 0, 0, 0, 0, 0, 0, Zf)) = some (r1, r2, r3, r4, r5, r6, r7, r8) := by rw [if_pos rfl] at H; exact H
    clear H
    have H := H1
    clear H1
    simp only [Option.some.injEq, Prod.mk.injEq] at H
    obtain ⟨rfl, rfl, rfl, rfl, rfl, rfl, rfl, rfl⟩ := H
    have hnb36 := NB349_347.out
    have hnc36 := NB347_349.out
    have hnb37 := NB349_348.out
    have hnc37 := NB348_349.out
    have hnb38 := NB349_358.out
    have hnc38 := NB358_349.out
    have hcz39_0 : wc.cell? ⟨gb349, 0, none⟩ = some (.int .i64 0) := (Xd BK349.out 0).trans rfl
    have hcz39_1 : wc.cell? ⟨gb349, 1, none⟩ = some (.int .i64 0) := (Xd BK349.out 1).trans rfl
    have hcz39_2 : wc.cell? ⟨gb349, 2, none⟩ = some (.int .i64 0) := (Xd BK349.out 2).trans rfl
    have hcz39_3 : wc.cell? ⟨gb349, 3, none⟩ = some (.int .i64 0) := (Xd BK349.out 3).trans rfl
    have hcz39_4 : wc.cell? ⟨gb349, 4, none⟩ = some (.int .i64 0) := (Xd BK349.out 4).trans rfl
    have hcz39_5 : wc.cell? ⟨gb349, 5, none⟩ = some (.int .i64 0) := (Xd BK349.out 5).trans rfl
    have hcz39_6 : wc.cell? ⟨gb349, 6, none⟩ = some (.int .i64 0) := (Xd BK349.out 6).trans rfl
    have hfz39_0 := Xj BK349.out 0
    have hfz39_1 := Xj BK349.out 1
    have hfz39_2 := Xj BK349.out 2
    have hfz39_3 := Xj BK349.out 3
    have hfz39_4 := Xj BK349.out 4
    have hfz39_5 := Xj BK349.out 5
    have hfz39_6 := Xj BK349.out 6
    go_wp2
    refine bodyPost_ret (results_ct rfl _ _ gb349 55 #[.int .i64 0, .int .i64 0, .int .i64 0, .int .i64 0, .int .i64 0, .int .i64 0, .int .i64 0] (0, 0) _ rfl (by (with_reducible repeat (first | refine Xf ?_ _ | refine Xh ?_ | refine Xg ?_ _)); refine blk_put (cs := #[.int .i64 0, .int .i64 0, .int .i64 0, .int .i64 0, .int .i64 0, .int .i64 0, .int .i64 0]) ?_ 6 _ rfl; (with_reducible repeat (first | refine Xf ?_ _ | refine Xh ?_ | refine Xg ?_ _)); refine blk_put (cs := #[.int .i64 0, .int .i64 0, .int .i64 0, .int .i64 0, .int .i64 0, .int .i64 0, .int .i64 0]) ?_ 5 _ rfl; (with_reducible repeat (first | refine Xf ?_ _ | refine Xh ?_ | refine Xg ?_ _)); refine blk_put (cs := #[.int .i64 0, .int .i64 0, .int .i64 0, .int .i64 0, .int .i64 0, .int .i64 0, .int .i64 0]) ?_ 4 _ rfl; (with_reducible repeat (first | refine Xf ?_ _ | refine Xh ?_ | refine Xg ?_ _)); refine blk_put (cs := #[.int .i64 0, .int .i64 0, .int .i64 0, .int .i64 0, .int .i64 0, .int .i64 0, .int .i64 0]) ?_ 3 _ rfl; (with_reducible repeat (first | refine Xf ?_ _ | refine Xh ?_ | refine Xg ?_ _)); refine blk_put (cs := #[.int .i64 0, .int .i64 0, .int .i64 0, .int .i64 0, .int .i64 0, .int .i64 0, .int .i64 0]) ?_ 2 _ rfl; (with_reducible repeat (first | refine Xf ?_ _ | refine Xh ?_ | refine Xg ?_ _)); refine blk_put (cs := #[.int .i64 0, .int .i64 0, .int .i64 0, .int .i64 0, .int .i64 0, .int .i64 0, .int .i64 0]) ?_ 1 _ rfl; (with_reducible repeat (first | refine Xf ?_ _ | refine Xh ?_ | refine Xg ?_ _)); refine blk_put (cs := #[.int .i64 0, .int .i64 0, .int .i64 0, .int .i64 0, .int .i64 0, .int .i64 0, .int .i64 0]) ?_ 0 _ rfl; (with_reducible repeat (first | refine Xf ?_ _ | refine Xh ?_ | refine Xg ?_ _)); exact BK349.out) Try.underlying55 rfl (by kernel_rfl)) rfl ?_
    exact ⟨by first | rfl | (simp [errW_none, errW_some] <;> rfl) | (simp [*, errW_none, errW_some] <;> rfl), by repeat (first | (with_reducible first | exact HB.out | apply below_alloc | apply pw_below_drewN | apply below_drew1 | refine below_set ?_ GE347.out | refine below_set ?_ GE348.out | refine below_set ?_ GE349.out | refine below_set ?_ GE358.out) | exact HB.out)⟩
   ·replace c35 := Bool.eq_false_iff.mpr c35
    subst c35
    have H1 : ((gatherumref04_Back.f kj4 a0_4 a0_5 a0_6).bind fun bt361 => ((gatherumref04_Box.f kj4 bt361.1 bt361.2.1 bt361.2.2 t354 t355 t356 t357).bind fun bt364 => (some (bt364.1, bt364.2.1, bt364.2.2.1, bt364.2.2.2, a0_4, a0_5, a0_6, Zt)))) = some (r1, r2, r3, r4, r5, r6, r7, r8) := by rw [if_neg (show ¬ (Zf = Zt) by decide)] at H; exact H
    clear H
    have H := H1
    clear H1
    replace H := Option.bind_eq_some_iff.mp H
    obtain ⟨⟨t361, t362, t363⟩, A400, H⟩ := H
    replace H : ((gatherumref04_Box.f kj4 t361 t362 t363 t354 t355 t356 t357).bind fun bt364 => (some (bt364.1, bt364.2.1, bt364.2.2.1, bt364.2.2.2, a0_4, a0_5, a0_6, Zt))) = some (r1, r2, r3, r4, r5, r6, r7, r8) := H
    have A40 := Za A400
    clear A400
    replace H := Option.bind_eq_some_iff.mp H
    obtain ⟨⟨t364, t365, t366, t367⟩, A410, H⟩ := H
    replace H : (some (t364, t365, t366, t367, a0_4, a0_5, a0_6, Zt)) = some (r1, r2, r3, r4, r5, r6, r7, r8) := H
    have A41 := Za A410
    clear A410
    simp only [Option.some.injEq, Prod.mk.injEq] at H
    obtain ⟨rfl, rfl, rfl, rfl, rfl, rfl, rfl, rfl⟩ := H
    try go_wp2
    have n0_ := Za (Xh BK347.out)
    have n1_ := Za (Xh BK348.out)
    have n2_ := Za (Xh BK349.out)
    have n3_ := Za (Xh BK358.out)
    have n4_ := Za (below_drew1 HB.out)
    clear BK347
    clear BK348
    clear BK349
    clear BK358
    clear HB
    have BK347 := n0_
    have BK348 := n1_
    have BK349 := n2_
    have BK358 := n3_
    have HB := n4_
    clear n0_ n1_ n2_ n3_ n4_
    refine start_ (n := 10) (S := fun w' => w'.cell? ⟨gb347, 0, none⟩ = some (.int .i64 a0_0) ∧ w'.cell? ⟨gb347, 1, none⟩ = some (.int .i64 a0_1) ∧ w'.cell? ⟨gb347, 2, none⟩ = some (.int .i64 a0_2) ∧ w'.cell? ⟨gb347, 3, none⟩ = some (.int .i64 a0_3) ∧ w'.cell? ⟨gb347, 4, none⟩ = some (.int .i64 a0_4) ∧ w'.cell? ⟨gb347, 5, none⟩ = some (.int .i64 a0_5) ∧ w'.cell? ⟨gb347, 6, none⟩ = some (.int .i64 a0_6) ∧ w'.cell? ⟨gb358, 0, none⟩ = some (.int .i64 t354) ∧ w'.cell? ⟨gb358, 1, none⟩ = some (.int .i64 t355) ∧ w'.cell? ⟨gb358, 2, none⟩ = some (.int .i64 t356) ∧ w'.cell? ⟨gb358, 3, none⟩ = some (.int .i64 t357)) (ds := []) #[Zf,Zf,Zf,Zf,Zf,Zf,Zf,Zf,Zf,Zf] (by kernel_rfl) rfl rfl ⟨(Xd BK347.out 0).trans rfl, (Xd BK347.out 1).trans rfl, (Xd BK347.out 2).trans rfl, (Xd BK347.out 3).trans rfl, (Xd BK347.out 4).trans rfl, (Xd BK347.out 5).trans rfl, (Xd BK347.out 6).trans rfl, (Xd BK358.out 0).trans rfl, (Xd BK358.out 1).trans rfl, (Xd BK358.out 2).trans rfl, (Xd BK358.out 3).trans rfl⟩ (fun hHeld => ?_); refine with_tabW gatherumref38_Keep.tab4 gatherumref38_Keep.bits4 (fun HT_ HW_ => ?_)
    generalize wc.drew = w42 at BK347 BK348 BK349 BK358 HB hHeld ⊢
    refine pure_ (i := 0) (N := some 19) (v := ?_) (a' := ?_) #[Zt,Zf,Zf,Zf,Zf,Zf,Zf,Zf,Zf,Zf] rfl rfl (any_of HT_.out (by kernel_rfl)) (fun _ _ _ h => h) (Or.inl ⟨by rfl, ?_⟩) ?_ ?_
    rotate_left
    ·intro w'
     go_simp
     with_reducible rfl
    rotate_left
    ·simp only [Act.put, Xa, Xb, Xc, i64_w, i32_w]
     rfl
    refine pure_ (i := 5) (N := some 24) (v := ?_) (a' := ?_) #[Zt,Zf,Zf,Zf,Zf,Zt,Zf,Zf,Zf,Zf] rfl rfl (any_of HT_.out (by kernel_rfl)) (fun _ _ _ h => h) (Or.inl ⟨by rfl, ?_⟩) ?_ ?_
    rotate_left
    ·intro w'
     go_simp
     with_reducible rfl
    rotate_left
    ·simp only [Act.put, Xa, Xb, Xc, i64_w, i32_w]
     rfl
    refine take_ (i := 1) (N := some 20) (v := ?_) (a' := ?_) #[Zt,Zt,Zf,Zf,Zf,Zt,Zf,Zf,Zf,Zf] rfl rfl (take_ofW HT_.out HW_.out (by kernel_rfl)) (fun _ _ _ h => h) (Or.inl ⟨by rfl, ?_⟩) hHeld ?_ ?_
    rotate_left
    ·rintro w' ⟨s0, s1, s2, s3, s4, s5, s6, s7, s8, s9, s10⟩
     go_simp
     with_reducible rfl
    rotate_left
    ·simp only [Act.put, Xa, Xb, Xc, i64_w, i32_w]
     rfl
    refine take_ (i := 3) (N := some 22) (v := ?_) (a' := ?_) #[Zt,Zt,Zf,Zt,Zf,Zt,Zf,Zf,Zf,Zf] rfl rfl (take_ofW HT_.out HW_.out (by kernel_rfl)) (fun _ _ _ h => h) (Or.inl ⟨by rfl, ?_⟩) hHeld ?_ ?_
    rotate_left
    ·rintro w' ⟨s0, s1, s2, s3, s4, s5, s6, s7, s8, s9, s10⟩
     go_simp
     with_reducible rfl
    rotate_left
    ·simp only [Act.put, Xa, Xb, Xc, i64_w, i32_w]
     rfl
    refine take_ (i := 6) (N := some 25) (v := ?_) (a' := ?_) #[Zt,Zt,Zf,Zt,Zf,Zt,Zt,Zf,Zf,Zf] rfl rfl (take_ofW HT_.out HW_.out (by kernel_rfl)) (fun _ _ _ h => h) (Or.inl ⟨by rfl, ?_⟩) hHeld ?_ ?_
    rotate_left
    ·rintro w' ⟨s0, s1, s2, s3, s4, s5, s6, s7, s8, s9, s10⟩
     go_simp
     with_reducible rfl
    rotate_left
    ·simp only [Act.put, Xa, Xb, Xc, i64_w, i32_w]
     rfl
    refine one_ (i := 2) (N := some 21) #[Zt,Zt,Zt,Zt,Zf,Zt,Zt,Zf,Zf,Zf] rfl rfl (one_of HT_.out (by kernel_rfl)) (by decide) (fun K hK => ?_)
    refine goes_ Try.func34 (by kernel_rfl) rfl #[.agg #[.int .i64 a0_4, .int .i64 a0_5, .int .i64 a0_6]] (by rfl) rfl rfl (by (try simp only [List.map_toArray, List.map_cons, List.map_nil]); first | done | rfl | (simp only [List.length_drop, List.length_take]; rfl)) ?_
    with_reducible refine (gatherumref04_Back.calls kj4 a0_4 a0_5 a0_6 t361 t362 t363 _ A40.out).mono ?_
    rintro e w43 ⟨rfl, hb⟩
    refine ⟨_, rfl, ?_⟩
    have n0_ := Za (Xi (g := gb347) (o := .cells #[.int .i64 a0_0, .int .i64 a0_1, .int .i64 a0_2, .int .i64 a0_3, .int .i64 a0_4, .int .i64 a0_5, .int .i64 a0_6] 55 (0, 0)) (bb_15 BK347.out) hb)
    have n1_ := Za (Xi (g := gb348) (o := .cells #[.int .i64 a1_0, .int .i64 a1_1, .int .i64 a1_2, .int .i64 a1_3] 37 (0, 0)) (bb_15 BK348.out) hb)
    have n2_ := Za (Xi (g := gb349) (o := .cells #[.int .i64 0, .int .i64 0, .int .i64 0, .int .i64 0, .int .i64 0, .int .i64 0, .int .i64 0] 55 (0, 0)) (bb_15 BK349.out) hb)
    have n3_ := Za (Xi (g := gb358) (o := .cells #[.int .i64 t354, .int .i64 t355, .int .i64 t356, .int .i64 t357] 37 (0, 0)) (bb_15 BK358.out) hb)
    have n4_ := Za (below_step (hb_15 HB.out) hb)
    clear BK347
    clear BK348
    clear BK349
    clear BK358
    clear HB
    have BK347 := n0_
    have BK348 := n1_
    have BK349 := n2_
    have BK358 := n3_
    have HB := n4_
    clear n0_ n1_ n2_ n3_ n4_
    (try clear hb)
    (try clear hb2)
    (try clear hk)
    (try clear hi)
    refine hK.out _ _ ⟨(Xd BK347.out 0).trans rfl, (Xd BK347.out 1).trans rfl, (Xd BK347.out 2).trans rfl, (Xd BK347.out 3).trans rfl, (Xd BK347.out 4).trans rfl, (Xd BK347.out 5).trans rfl, (Xd BK347.out 6).trans rfl, (Xd BK358.out 0).trans rfl, (Xd BK358.out 1).trans rfl, (Xd BK358.out 2).trans rfl, (Xd BK358.out 3).trans rfl⟩ (fun hHeld => ?_)
    clear hK K
    refine norm_ (a' := ?_) ?_ ?_
    rotate_left
    ·show Act.put _ (some 21) _ = _
     simp only [Act.put, Xa, Xb, Xc, i64_w, i32_w]
     rfl
    refine one_ (i := 4) (N := some 23) #[Zt,Zt,Zt,Zt,Zt,Zt,Zt,Zf,Zf,Zf] rfl rfl (one_of HT_.out (by kernel_rfl)) (by decide) (fun K hK => ?_)
    refine goes_ Try.func20 (by kernel_rfl) rfl #[.agg #[.int .i64 t361, .int .i64 t362, .int .i64 t363], .agg #[.int .i64 t354, .int .i64 t355, .int .i64 t356, .int .i64 t357]] (by rfl) rfl rfl (by (try simp only [List.map_toArray, List.map_cons, List.map_nil]); first | done | rfl | (simp only [List.length_drop, List.length_take]; rfl)) ?_
    with_reducible refine (gatherumref04_Box.calls kj4 t361 t362 t363 t354 t355 t356 t357 t364 t365 t366 t367 _ A41.out).mono ?_
    rintro e w44 ⟨rfl, hb⟩
    refine ⟨_, rfl, ?_⟩
    have n0_ := Za (Xi (g := gb347) (o := .cells #[.int .i64 a0_0, .int .i64 a0_1, .int .i64 a0_2, .int .i64 a0_3, .int .i64 a0_4, .int .i64 a0_5, .int .i64 a0_6] 55 (0, 0)) (bb_15 BK347.out) hb)
    have n1_ := Za (Xi (g := gb348) (o := .cells #[.int .i64 a1_0, .int .i64 a1_1, .int .i64 a1_2, .int .i64 a1_3] 37 (0, 0)) (bb_15 BK348.out) hb)
    have n2_ := Za (Xi (g := gb349) (o := .cells #[.int .i64 0, .int .i64 0, .int .i64 0, .int .i64 0, .int .i64 0, .int .i64 0, .int .i64 0] 55 (0, 0)) (bb_15 BK349.out) hb)
    have n3_ := Za (Xi (g := gb358) (o := .cells #[.int .i64 t354, .int .i64 t355, .int .i64 t356, .int .i64 t357] 37 (0, 0)) (bb_15 BK358.out) hb)
    have n4_ := Za (below_step (hb_15 HB.out) hb)
    clear BK347
    clear BK348
    clear BK349
    clear BK358
    clear HB
    have BK347 := n0_
    have BK348 := n1_
    have BK349 := n2_
    have BK358 := n3_
    have HB := n4_
    clear n0_ n1_ n2_ n3_ n4_
    (try clear hb)
    (try clear hb2)
    (try clear hk)
    (try clear hi)
    refine hK.out _ _ ⟨(Xd BK347.out 0).trans rfl, (Xd BK347.out 1).trans rfl, (Xd BK347.out 2).trans rfl, (Xd BK347.out 3).trans rfl, (Xd BK347.out 4).trans rfl, (Xd BK347.out 5).trans rfl, (Xd BK347.out 6).trans rfl, (Xd BK358.out 0).trans rfl, (Xd BK358.out 1).trans rfl, (Xd BK358.out 2).trans rfl, (Xd BK358.out 3).trans rfl⟩ (fun hHeld => ?_)
    clear hK K
    refine norm_ (a' := ?_) ?_ ?_
    rotate_left
    ·show Act.put _ (some 23) _ = _
     simp only [Act.put, Xa, Xb, Xc, i64_w, i32_w]
     rfl
    refine pure_ (i := 7) (N := some 26) (v := ?_) (a' := ?_) #[Zt,Zt,Zt,Zt,Zt,Zt,Zt,Zt,Zf,Zf] rfl rfl (any_of HT_.out (by kernel_rfl)) (fun _ _ _ h => h) (Or.inl ⟨by rfl, ?_⟩) ?_ ?_
    rotate_left
    ·intro w'
     go_simp
     with_reducible rfl
    rotate_left
    ·simp only [Act.put, Xa, Xb, Xc, i64_w, i32_w]
     rfl
    refine one_ (i := 8) (N := none) #[Zt,Zt,Zt,Zt,Zt,Zt,Zt,Zt,Zt,Zf] rfl rfl (one_of HT_.out (by kernel_rfl)) (by decide) (fun K hK => ?_)
    have hs45 : w44.cell? ⟨gb349, 0, none⟩ = some (.int .i64 0) := (Xd BK349.out 0).trans rfl
    have hfs45 := Xj BK349.out 0
    have hns45_0 := NB347_349.out
    have hns45_1 := NB348_349.out
    have hns45_3 := NB358_349.out
    have hms45_0 := NB349_347.out
    have hms45_1 := NB349_348.out
    have hms45_3 := NB349_358.out
    have hs46 : w44.cell? ⟨gb349, 1, none⟩ = some (.int .i64 0) := (Xd BK349.out 1).trans rfl
    have hfs46 := Xj BK349.out 1
    have hns46_0 := NB347_349.out
    have hns46_1 := NB348_349.out
    have hns46_3 := NB358_349.out
    have hms46_0 := NB349_347.out
    have hms46_1 := NB349_348.out
    have hms46_3 := NB349_358.out
    have hs47 : w44.cell? ⟨gb349, 2, none⟩ = some (.int .i64 0) := (Xd BK349.out 2).trans rfl
    have hfs47 := Xj BK349.out 2
    have hns47_0 := NB347_349.out
    have hns47_1 := NB348_349.out
    have hns47_3 := NB358_349.out
    have hms47_0 := NB349_347.out
    have hms47_1 := NB349_348.out
    have hms47_3 := NB349_358.out
    have hs48 : w44.cell? ⟨gb349, 3, none⟩ = some (.int .i64 0) := (Xd BK349.out 3).trans rfl
    have hfs48 := Xj BK349.out 3
    have hns48_0 := NB347_349.out
    have hns48_1 := NB348_349.out
    have hns48_3 := NB358_349.out
    have hms48_0 := NB349_347.out
    have hms48_1 := NB349_348.out
    have hms48_3 := NB349_358.out
    have hs49 : w44.cell? ⟨gb349, 4, none⟩ = some (.int .i64 0) := (Xd BK349.out 4).trans rfl
    have hfs49 := Xj BK349.out 4
    have hns49_0 := NB347_349.out
    have hns49_1 := NB348_349.out
    have hns49_3 := NB358_349.out
    have hms49_0 := NB349_347.out
    have hms49_1 := NB349_348.out
    have hms49_3 := NB349_358.out
    have hs50 : w44.cell? ⟨gb349, 5, none⟩ = some (.int .i64 0) := (Xd BK349.out 5).trans rfl
    have hfs50 := Xj BK349.out 5
    have hns50_0 := NB347_349.out
    have hns50_1 := NB348_349.out
    have hns50_3 := NB358_349.out
    have hms50_0 := NB349_347.out
    have hms50_1 := NB349_348.out
    have hms50_3 := NB349_358.out
    have hs51 : w44.cell? ⟨gb349, 6, none⟩ = some (.int .i64 0) := (Xd BK349.out 6).trans rfl
    have hfs51 := Xj BK349.out 6
    have hns51_0 := NB347_349.out
    have hns51_1 := NB348_349.out
    have hns51_3 := NB358_349.out
    have hms51_0 := NB349_347.out
    have hms51_1 := NB349_348.out
    have hms51_3 := NB349_358.out
    refine skip_ (w1 := ?_) (by rfl) rfl ?_ ?_
    rotate_left
    ·go_simp
     rfl
    refine hK.out _ _ ⟨((Xe (p := ⟨gb349, _, none⟩) NB347_349.out _).trans (((Xe (p := ⟨gb349, _, none⟩) NB347_349.out _).trans (((Xe (p := ⟨gb349, _, none⟩) NB347_349.out _).trans (((Xe (p := ⟨gb349, _, none⟩) NB347_349.out _).trans (((Xe (p := ⟨gb349, _, none⟩) NB347_349.out _).trans (((Xe (p := ⟨gb349, _, none⟩) NB347_349.out _).trans (((Xe (p := ⟨gb349, _, none⟩) NB347_349.out _).trans (hHeld.1)))))))))))))), ((Xe (p := ⟨gb349, _, none⟩) NB347_349.out _).trans (((Xe (p := ⟨gb349, _, none⟩) NB347_349.out _).trans (((Xe (p := ⟨gb349, _, none⟩) NB347_349.out _).trans (((Xe (p := ⟨gb349, _, none⟩) NB347_349.out _).trans (((Xe (p := ⟨gb349, _, none⟩) NB347_349.out _).trans (((Xe (p := ⟨gb349, _, none⟩) NB347_349.out _).trans (((Xe (p := ⟨gb349, _, none⟩) NB347_349.out _).trans (hHeld.2.1)))))))))))))), ((Xe (p := ⟨gb349, _, none⟩) NB347_349.out _).trans (((Xe (p := ⟨gb349, _, none⟩) NB347_349.out _).trans (((Xe (p := ⟨gb349, _, none⟩) NB347_349.out _).trans (((Xe (p := ⟨gb349, _, none⟩) NB347_349.out _).trans (((Xe (p := ⟨gb349, _, none⟩) NB347_349.out _).trans (((Xe (p := ⟨gb349, _, none⟩) NB347_349.out _).trans (((Xe (p := ⟨gb349, _, none⟩) NB347_349.out _).trans (hHeld.2.2.1)))))))))))))), ((Xe (p := ⟨gb349, _, none⟩) NB347_349.out _).trans (((Xe (p := ⟨gb349, _, none⟩) NB347_349.out _).trans (((Xe (p := ⟨gb349, _, none⟩) NB347_349.out _).trans (((Xe (p := ⟨gb349, _, none⟩) NB347_349.out _).trans (((Xe (p := ⟨gb349, _, none⟩) NB347_349.out _).trans (((Xe (p := ⟨gb349, _, none⟩) NB347_349.out _).trans (((Xe (p := ⟨gb349, _, none⟩) NB347_349.out _).trans (hHeld.2.2.2.1)))))))))))))), ((Xe (p := ⟨gb349, _, none⟩) NB347_349.out _).trans (((Xe (p := ⟨gb349, _, none⟩) NB347_349.out _).trans (((Xe (p := ⟨gb349, _, none⟩) NB347_349.out _).trans (((Xe (p := ⟨gb349, _, none⟩) NB347_349.out _).trans (((Xe (p := ⟨gb349, _, none⟩) NB347_349.out _).trans (((Xe (p := ⟨gb349, _, none⟩) NB347_349.out _).trans (((Xe (p := ⟨gb349, _, none⟩) NB347_349.out _).trans (hHeld.2.2.2.2.1)))))))))))))), ((Xe (p := ⟨gb349, _, none⟩) NB347_349.out _).trans (((Xe (p := ⟨gb349, _, none⟩) NB347_349.out _).trans (((Xe (p := ⟨gb349, _, none⟩) NB347_349.out _).trans (((Xe (p := ⟨gb349, _, none⟩) NB347_349.out _).trans (((Xe (p := ⟨gb349, _, none⟩) NB347_349.out _).trans (((Xe (p := ⟨gb349, _, none⟩) NB347_349.out _).trans (((Xe (p := ⟨gb349, _, none⟩) NB347_349.out _).trans (hHeld.2.2.2.2.2.1)))))))))))))), ((Xe (p := ⟨gb349, _, none⟩) NB347_349.out _).trans (((Xe (p := ⟨gb349, _, none⟩) NB347_349.out _).trans (((Xe (p := ⟨gb349, _, none⟩) NB347_349.out _).trans (((Xe (p := ⟨gb349, _, none⟩) NB347_349.out _).trans (((Xe (p := ⟨gb349, _, none⟩) NB347_349.out _).trans (((Xe (p := ⟨gb349, _, none⟩) NB347_349.out _).trans (((Xe (p := ⟨gb349, _, none⟩) NB347_349.out _).trans (hHeld.2.2.2.2.2.2.1)))))))))))))), ((Xe (p := ⟨gb349, _, none⟩) NB358_349.out _).trans (((Xe (p := ⟨gb349, _, none⟩) NB358_349.out _).trans (((Xe (p := ⟨gb349, _, none⟩) NB358_349.out _).trans (((Xe (p := ⟨gb349, _, none⟩) NB358_349.out _).trans (((Xe (p := ⟨gb349, _, none⟩) NB358_349.out _).trans (((Xe (p := ⟨gb349, _, none⟩) NB358_349.out _).trans (((Xe (p := ⟨gb349, _, none⟩) NB358_349.out _).trans (hHeld.2.2.2.2.2.2.2.1)))))))))))))), ((Xe (p := ⟨gb349, _, none⟩) NB358_349.out _).trans (((Xe (p := ⟨gb349, _, none⟩) NB358_349.out _).trans (((Xe (p := ⟨gb349, _, none⟩) NB358_349.out _).trans (((Xe (p := ⟨gb349, _, none⟩) NB358_349.out _).trans (((Xe (p := ⟨gb349, _, none⟩) NB358_349.out _).trans (((Xe (p := ⟨gb349, _, none⟩) NB358_349.out _).trans (((Xe (p := ⟨gb349, _, none⟩) NB358_349.out _).trans (hHeld.2.2.2.2.2.2.2.2.1)))))))))))))), ((Xe (p := ⟨gb349, _, none⟩) NB358_349.out _).trans (((Xe (p := ⟨gb349, _, none⟩) NB358_349.out _).trans (((Xe (p := ⟨gb349, _, none⟩) NB358_349.out _).trans (((Xe (p := ⟨gb349, _, none⟩) NB358_349.out _).trans (((Xe (p := ⟨gb349, _, none⟩) NB358_349.out _).trans (((Xe (p := ⟨gb349, _, none⟩) NB358_349.out _).trans (((Xe (p := ⟨gb349, _, none⟩) NB358_349.out _).trans (hHeld.2.2.2.2.2.2.2.2.2.1)))))))))))))), ((Xe (p := ⟨gb349, _, none⟩) NB358_349.out _).trans (((Xe (p := ⟨gb349, _, none⟩) NB358_349.out _).trans (((Xe (p := ⟨gb349, _, none⟩) NB358_349.out _).trans (((Xe (p := ⟨gb349, _, none⟩) NB358_349.out _).trans (((Xe (p := ⟨gb349, _, none⟩) NB358_349.out _).trans (((Xe (p := ⟨gb349, _, none⟩) NB358_349.out _).trans (((Xe (p := ⟨gb349, _, none⟩) NB358_349.out _).trans (hHeld.2.2.2.2.2.2.2.2.2.2))))))))))))))⟩ (fun hHeld => ?_)
    clear hK K
    refine pure_ (i := 9) (N := some 5) (v := ?_) (a' := ?_) #[Zt,Zt,Zt,Zt,Zt,Zt,Zt,Zt,Zt,Zt] rfl rfl (any_of HT_.out (by kernel_rfl)) (fun _ _ _ h => h) (Or.inl ⟨by rfl, ?_⟩) ?_ ?_
    rotate_left
    ·intro w'
     go_simp
     with_reducible rfl
    rotate_left
    ·simp only [Act.put, Xa, Xb, Xc, i64_w, i32_w]
     rfl
    refine done_ (done_of HT_.out (by kernel_rfl)) ?_
    try go_wp2
    refine bodyPost_ret (results_ct rfl _ _ gb349 55 #[.int .i64 t364, .int .i64 t365, .int .i64 t366, .int .i64 t367, .int .i64 a0_4, .int .i64 a0_5, .int .i64 a0_6] (0, 0) _ rfl (by (with_reducible repeat (first | refine Xf ?_ _ | refine Xh ?_ | refine Xg ?_ _)); refine blk_put (cs := #[.int .i64 t364, .int .i64 t365, .int .i64 t366, .int .i64 t367, .int .i64 a0_4, .int .i64 a0_5, .int .i64 0]) ?_ 6 _ rfl; (with_reducible repeat (first | refine Xf ?_ _ | refine Xh ?_ | refine Xg ?_ _)); refine blk_put (cs := #[.int .i64 t364, .int .i64 t365, .int .i64 t366, .int .i64 t367, .int .i64 a0_4, .int .i64 0, .int .i64 0]) ?_ 5 _ rfl; (with_reducible repeat (first | refine Xf ?_ _ | refine Xh ?_ | refine Xg ?_ _)); refine blk_put (cs := #[.int .i64 t364, .int .i64 t365, .int .i64 t366, .int .i64 t367, .int .i64 0, .int .i64 0, .int .i64 0]) ?_ 4 _ rfl; (with_reducible repeat (first | refine Xf ?_ _ | refine Xh ?_ | refine Xg ?_ _)); refine blk_put (cs := #[.int .i64 t364, .int .i64 t365, .int .i64 t366, .int .i64 0, .int .i64 0, .int .i64 0, .int .i64 0]) ?_ 3 _ rfl; (with_reducible repeat (first | refine Xf ?_ _ | refine Xh ?_ | refine Xg ?_ _)); refine blk_put (cs := #[.int .i64 t364, .int .i64 t365, .int .i64 0, .int .i64 0, .int .i64 0, .int .i64 0, .int .i64 0]) ?_ 2 _ rfl; (with_reducible repeat (first | refine Xf ?_ _ | refine Xh ?_ | refine Xg ?_ _)); refine blk_put (cs := #[.int .i64 t364, .int .i64 0, .int .i64 0, .int .i64 0, .int .i64 0, .int .i64 0, .int .i64 0]) ?_ 1 _ rfl; (with_reducible repeat (first | refine Xf ?_ _ | refine Xh ?_ | refine Xg ?_ _)); refine blk_put (cs := #[.int .i64 0, .int .i64 0, .int .i64 0, .int .i64 0, .int .i64 0, .int .i64 0, .int .i64 0]) ?_ 0 _ rfl; (with_reducible repeat (first | refine Xf ?_ _ | refine Xh ?_ | refine Xg ?_ _)); exact BK349.out) Try.underlying55 rfl (by kernel_rfl)) rfl ?_
    exact ⟨by first | rfl | (simp [errW_none, errW_some] <;> rfl) | (simp [*, errW_none, errW_some] <;> rfl), by repeat (first | (with_reducible first | exact HB.out | apply below_alloc | apply pw_below_drewN | apply below_drew1 | refine below_set ?_ GE347.out | refine below_set ?_ GE348.out | refine below_set ?_ GE349.out | refine below_set ?_ GE358.out) | exact HB.out)⟩

end Go.Proofs.Ythgmjhidigoneaa.PLayerKeeps
