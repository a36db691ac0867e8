import Derived.Test.YthgmjhidigoneaaPLayerKeepsx0
import Derived.Test.YthgmjhidigoneaaPLayerKeepsx1
import Derived.Test.YthgmjhidigoneaaPLayerKeepsx4
import Derived.Test.YthgmjhidigoneaaPLayerKeepsx5
import Derived.Test.YthgmjhidigoneaaPLayerKeepsx6
import Derived.Test.YthgmjhidigoneaaPLayerKeepsx7
namespace Go.Proofs.Ythgmjhidigoneaa.PLayerKeeps
open Go.RowKit Go.Proofs.YthgmjhidigoneaaW.PrintWords Go.Proofs.YthgmjhidigoneaaW.PrintLast Go.Proofs.YthgmjhidigoneaaW.PrintMore
open Bool renaming true → Zt, false → Zf
open Go.Proofs.YthgmjhidigoneaaW.PrintWords.Aside0 renaming mk → Za
open List renaming setIfInBounds_toArray → Xa, set_cons_zero → Xb, set_cons_succ → Xc
open Go.Proofs.YthgmjhidigoneaaW.PrintWords renaming blk_cell → Xd, blk_frozen → Xe, blk_drewN → Xf, blk_alloc → Xg, blk_drew → Xh, below_step → Xi, blk_put → Xj, below_size → Xk, blk_below → Xl, gate_callee → Xm
attribute [local go_sem] max2_int min2_int max_two min_two max_three min_three max_four min_four   -- for this text's walks alone
set_option linter.unusedVariables false
set_option linter.unusedSimpArgs false
theorem bb_8 {p q : Prop} (h : q) (f : q → p := by intro h_; (with_reducible repeat (first | refine blk_drewN ?_ _ | refine blk_drew ?_ | refine blk_alloc ?_ _)); exact h_) : p := f h
theorem hb_8 {B : Nat} {w W W1 : World} (h : Below B w W) (f : Below B w W → Below B w W1 := by intro h_; repeat (first | (with_reducible first | exact h_ | apply below_alloc | apply pw_below_drewN | apply below_drew1 | refine below_set ?_ (Aside0.out (by assumption))) | exact h_)) : Below B w W1 := f h

attribute [local go_sem high] eqA37
/-! ### turn_Back: function 101 -/
def turn_Back.f (a0 : Int) : Option (Int) := (turn_Mirrors.f a0).bind fun t163 => (if t163 = Zt then (some (Go.bits .and .i64 a0 7)) else (some (Go.bits .and .i64 (wrap64 (-a0)) 3)))
set_option maxHeartbeats 8000000 in
set_option maxRecDepth 100000 in
theorem turn_Back.calls (a0 : Int) (r : Int) (w : World) (h : turn_Back.f a0 = some r) :
  Calls Try.prog 101 #[.int .i64 a0] w fun e w' => e = .returned (.int .i64 r) ∧ Drawn0 w w' := by
 have H : ((turn_Mirrors.f a0).bind fun t163 => (if t163 = Zt then (some (Go.bits .and .i64 a0 7)) else (some (Go.bits .and .i64 (wrap64 (-a0)) 3)))) = some r := h
 clear h
 replace H := Option.bind_eq_some_iff.mp H
 obtain ⟨t163, A20, H⟩ := H
 replace H : (if t163 = Zt then (some (Go.bits .and .i64 a0 7)) else (some (Go.bits .and .i64 (wrap64 (-a0)) 3))) = some r := H
 have A2 := Za A20
 clear A20
 by_cases c3 : t163 = Zt
 ·subst c3
  have H1 : (some (Go.bits .and .i64 a0 7)) = some r := by rw [if_pos rfl] at H; exact H
  clear H
  have H := H1
  clear H1
  obtain rfl := Option.some.inj H
  go_enter Try.func101, Try.ntmps101
  go_wp2_with (first | ((with_reducible refine Xm (f := 84) rfl ?_); refine goesL_ (some 4) rfl rfl Try.func84 (by kernel_rfl) rfl #[.int .i64 a0] rfl (by (try simp only [List.map_toArray, List.map_cons, List.map_nil]); first | done | rfl | (simp only [List.length_drop, List.length_take]; rfl)) ?_; (with_reducible refine (turn_Mirrors.calls a0 Zt _ A2.out).mono ?_); rintro e w' ⟨rfl, ⟨nd, rfl⟩⟩; refine ⟨_, rfl, ?_⟩))
  go_ret
  exact ⟨by first | rfl | (simp; done) | (simp [*]; done), by repeat (first | exact Drawn0.refl _ | apply Drawn0.step)⟩
 ·replace c3 := Bool.eq_false_iff.mpr c3
  subst c3
  have H1 : (some (Go.bits .and .i64 (wrap64 (-a0)) 3)) = some r := by rw [if_neg (show ¬ (Zf = Zt) by decide)] at H; exact H
  clear H
  have H := H1
  clear H1
  obtain rfl := Option.some.inj H
  go_enter Try.func101, Try.ntmps101
  go_wp2_with (first | ((with_reducible refine Xm (f := 84) rfl ?_); refine goesL_ (some 4) rfl rfl Try.func84 (by kernel_rfl) rfl #[.int .i64 a0] rfl (by (try simp only [List.map_toArray, List.map_cons, List.map_nil]); first | done | rfl | (simp only [List.length_drop, List.length_take]; rfl)) ?_; (with_reducible refine (turn_Mirrors.calls a0 Zf _ A2.out).mono ?_); rintro e w' ⟨rfl, ⟨nd, rfl⟩⟩; refine ⟨_, rfl, ?_⟩))
  go_ret
  exact ⟨by first | rfl | (simp; done) | (simp [*]; done), by repeat (first | exact Drawn0.refl _ | apply Drawn0.step)⟩

/-! ### place_Back: function 99 -/
def place_Back.f (k : Nat) (a0_0 : Int) (a0_1 : Int) (a0_2 : Int) : Option (Int × Int × Int) := (turn_Back.f a0_0).bind fun t166 => ((turn_Do.f k t166 a0_1 a0_2).bind fun bt167 => (some (t166, wrap64 (-bt167.1), wrap64 (-bt167.2))))
theorem place_Back.mono : ∀ a0 a1 a2 k, LeO (place_Back.f k a0 a1 a2) (place_Back.f (k + 1) a0 a1 a2) := by
 intro a0 a1 a2 k
 unfold place_Back.f
 repeat' first
   | (with_reducible exact turn_Do.mono _ _ _ _)
   | (with_reducible exact LeO.refl _)
   | (with_reducible exact LeO.none _)
   | (with_reducible refine LeO.ite ?_ ?_)
   | (with_reducible refine LeO.bind ?_ (fun _ => ?_))
   | exact turn_Do.mono _ _ _ _
   | exact LeO.none _
   | refine LeO.ite ?_ ?_
   | refine LeO.bind ?_ (fun _ => ?_)
set_option maxHeartbeats 8000000 in
set_option maxRecDepth 100000 in
theorem place_Back.calls (k : Nat) (a0_0 : Int) (a0_1 : Int) (a0_2 : Int) (r1 : Int) (r2 : Int) (r3 : Int) (w : World) (h : place_Back.f k a0_0 a0_1 a0_2 = some (r1, r2, r3)) :
  Calls Try.prog 99 #[.agg #[.int .i64 a0_0, .int .i64 a0_1, .int .i64 a0_2]] w fun e w' => e = .returned (.agg #[.int .i64 r1, .int .i64 r2, .int .i64 r3]) ∧ Below w.heap.size w w' := by
 have hu32 := Try.underlying32
 have hu23 := Try.underlying23
 have HB := Za (Below.refl w.heap.size w)
 have H : ((turn_Back.f a0_0).bind fun t166 => ((turn_Do.f k t166 a0_1 a0_2).bind fun bt167 => (some (t166, wrap64 (-bt167.1), wrap64 (-bt167.2))))) = some (r1, r2, r3) := h
 clear h
 replace H := Option.bind_eq_some_iff.mp H
 obtain ⟨t166, A20, H⟩ := H
 replace H : ((turn_Do.f k t166 a0_1 a0_2).bind fun bt167 => (some (t166, wrap64 (-bt167.1), wrap64 (-bt167.2)))) = some (r1, r2, r3) := H
 have A2 := Za A20
 clear A20
 replace H := Option.bind_eq_some_iff.mp H
 obtain ⟨⟨t167, t168⟩, A30, H⟩ := H
 replace H : (some (t166, wrap64 (-t167), wrap64 (-t168))) = some (r1, r2, r3) := H
 have A3 := Za A30
 clear A30
 simp only [Option.some.injEq, Prod.mk.injEq] at H
 obtain ⟨rfl, rfl, rfl⟩ := H
 go_enter Try.func99, Try.ntmps99
 go_wp2_with (first | ((with_reducible refine gate_dst (N := 1) rfl ?_); refine box_event ?hg (N := 1) ?hd (cs := #[.int .i64 a0_0, .int .i64 a0_1, .int .i64 a0_2]) (t := 32) ?hr ?_; (case hd => rfl); (case hg => rfl); (case hr => first | (go_simp; done) | (go_simp; rfl)); intro gb164 hg w4 hbox hb; have n0_ := Za (Xi (hb_8 HB.out) hb); have n1_ := Za (hbox); have n2_ := Za ((by rw [hg]; exact (Xk (hb_8 HB.out)) : w.heap.size ≤ gb164)); have n3_ := Za ((by rw [hg]; exact (Xk (hb_8 HB.out)) : w.heap.size ≤ gb164)); clear HB; have HB := n0_; have BK164 := n1_; have GW164 := n2_; have GE164 := n3_; clear n0_ n1_ n2_ n3_; clear hb hbox hg) | ((with_reducible refine gate_dst (N := 2) rfl ?_); refine box_event ?hg (N := 2) ?hd (cs := #[.int .i64 0, .int .i64 0, .int .i64 0]) (t := 32) ?hr ?_; (case hd => rfl); (case hg => rfl); (case hr => first | (go_simp; done) | (go_simp; rfl)); intro gb165 hg w5 hbox hb; have n0_ := Za (Xl (g := gb164) (o := .cells #[.int .i64 a0_0, .int .i64 a0_1, .int .i64 a0_2] 32 (0, 0)) (bb_8 BK164.out) hb); have n1_ := Za (Xi (hb_8 HB.out) hb); have n2_ := Za (hbox); have n3_ := Za ((by rw [hg]; exact (Xk (hb_8 HB.out)) : w.heap.size ≤ gb165)); have n4_ := Za ((by rw [hg]; exact (Xk (hb_8 HB.out)) : w.heap.size ≤ gb165)); have n5_ := Za ((by rw [hg]; exact Nat.ne_of_lt (blk_lt (g := gb164) (o := .cells #[.int .i64 a0_0, .int .i64 a0_1, .int .i64 a0_2] 32 (0, 0)) (bb_8 BK164.out)) : gb164 ≠ gb165)); have n6_ := Za ((by rw [hg]; exact Nat.ne_of_gt (blk_lt (g := gb164) (o := .cells #[.int .i64 a0_0, .int .i64 a0_1, .int .i64 a0_2] 32 (0, 0)) (bb_8 BK164.out)) : gb165 ≠ gb164)); clear BK164; clear HB; have BK164 := n0_; have HB := n1_; have BK165 := n2_; have GW165 := n3_; have GE165 := n4_; have NB164_165 := n5_; have NB165_164 := n6_; clear n0_ n1_ n2_ n3_ n4_ n5_ n6_; clear hb hbox hg; have hnb6 := NB164_165.out; have hnc6 := NB165_164.out; have hcz7_0 : w5.cell? ⟨gb164, 0, none⟩ = some (.int .i64 a0_0) := (Xd BK164.out 0).trans rfl; have hcz7_1 : w5.cell? ⟨gb164, 1, none⟩ = some (.int .i64 a0_1) := (Xd BK164.out 1).trans rfl; have hcz7_2 : w5.cell? ⟨gb164, 2, none⟩ = some (.int .i64 a0_2) := (Xd BK164.out 2).trans rfl; have hfz7_0 := Xe BK164.out 0; have hfz7_1 := Xe BK164.out 1; have hfz7_2 := Xe BK164.out 2) | ((with_reducible refine Xm (f := 101) rfl ?_); refine goesL_ (some 7) rfl rfl Try.func101 (by kernel_rfl) rfl #[.int .i64 a0_0] rfl (by (try simp only [List.map_toArray, List.map_cons, List.map_nil]); first | done | rfl | (simp only [List.length_drop, List.length_take]; rfl)) ?_; (with_reducible refine (turn_Back.calls a0_0 t166 _ A2.out).mono ?_); rintro e w' ⟨rfl, ⟨nd, rfl⟩⟩; refine ⟨_, rfl, ?_⟩) | ((with_reducible refine Xm (f := 100) rfl ?_); refine goesL_ (some 14) rfl rfl Try.func100 (by kernel_rfl) rfl #[.int .i64 t166, .agg #[.int .i64 a0_1, .int .i64 a0_2]] rfl (by (try simp only [List.map_toArray, List.map_cons, List.map_nil]); first | done | rfl | (simp only [List.length_drop, List.length_take]; rfl)) ?_; (with_reducible refine (turn_Do.calls k t166 a0_1 a0_2 t167 t168 _ A3.out).mono ?_); rintro e w8 ⟨rfl, hb⟩; refine ⟨_, rfl, ?_⟩; have n0_ := Za (Xl (g := gb164) (o := .cells #[.int .i64 a0_0, .int .i64 a0_1, .int .i64 a0_2] 32 (0, 0)) (bb_8 BK164.out) hb); have n1_ := Za (Xl (g := gb165) (o := .cells #[.int .i64 0, .int .i64 0, .int .i64 0] 32 (0, 0)) (bb_8 BK165.out) hb); have n2_ := Za (Xi (hb_8 HB.out) hb); clear BK164; clear BK165; clear HB; have BK164 := n0_; have BK165 := n1_; have HB := n2_; clear n0_ n1_ n2_; (try clear hb); (try clear hb2); (try clear hk); (try clear hi)) | ((with_reducible refine gate_dst (N := 4) rfl ?_); refine box_event ?hg (N := 4) ?hd (cs := #[.int .i64 0, .int .i64 0]) (t := 23) ?hr ?_; (case hd => rfl); (case hg => rfl); (case hr => first | (go_simp; done) | (go_simp; rfl)); intro gb169 hg w9 hbox hb; have n0_ := Za (Xl (g := gb164) (o := .cells #[.int .i64 a0_0, .int .i64 a0_1, .int .i64 a0_2] 32 (0, 0)) (bb_8 BK164.out) hb); have n1_ := Za (Xl (g := gb165) (o := .cells #[.int .i64 0, .int .i64 0, .int .i64 0] 32 (0, 0)) (bb_8 BK165.out) hb); have n2_ := Za (Xi (hb_8 HB.out) hb); have n3_ := Za (hbox); have n4_ := Za ((by rw [hg]; exact (Xk (hb_8 HB.out)) : w.heap.size ≤ gb169)); have n5_ := Za ((by rw [hg]; exact (Xk (hb_8 HB.out)) : w.heap.size ≤ gb169)); have n6_ := Za ((by rw [hg]; exact Nat.ne_of_lt (blk_lt (g := gb164) (o := .cells #[.int .i64 a0_0, .int .i64 a0_1, .int .i64 a0_2] 32 (0, 0)) (bb_8 BK164.out)) : gb164 ≠ gb169)); have n7_ := Za ((by rw [hg]; exact Nat.ne_of_gt (blk_lt (g := gb164) (o := .cells #[.int .i64 a0_0, .int .i64 a0_1, .int .i64 a0_2] 32 (0, 0)) (bb_8 BK164.out)) : gb169 ≠ gb164)); have n8_ := Za ((by rw [hg]; exact Nat.ne_of_lt (blk_lt (g := gb165) (o := .cells #[.int .i64 0, .int .i64 0, .int .i64 0] 32 (0, 0)) (bb_8 BK165.out)) : gb165 ≠ gb169)); have n9_ := Za ((by rw [hg]; exact Nat.ne_of_gt (blk_lt (g := gb165) (o := .cells #[.int .i64 0, .int .i64 0, .int .i64 0] 32 (0, 0)) (bb_8 BK165.out)) : gb169 ≠ gb165)); clear BK164; clear BK165; clear HB; have BK164 := n0_; have BK165 := n1_; have HB := n2_; have BK169 := n3_; have GW169 := n4_; have GE169 := n5_; have NB164_169 := n6_; have NB169_164 := n7_; have NB165_169 := n8_; have NB169_165 := n9_; clear n0_ n1_ n2_ n3_ n4_ n5_ n6_ n7_ n8_ n9_; clear hb hbox hg; have hnb10 := NB169_164.out; have hnc10 := NB164_169.out; have hnb11 := NB169_165.out; have hnc11 := NB165_169.out; have hcz12_0 : w9.cell? ⟨gb169, 0, none⟩ = some (.int .i64 0) := (Xd BK169.out 0).trans rfl; have hcz12_1 : w9.cell? ⟨gb169, 1, none⟩ = some (.int .i64 0) := (Xd BK169.out 1).trans rfl; have hfz12_0 := Xe BK169.out 0; have hfz12_1 := Xe BK169.out 1; have hcz13_0 : w9.cell? ⟨gb165, 0, none⟩ = some (.int .i64 0) := (Xd BK165.out 0).trans rfl; have hcz13_1 : w9.cell? ⟨gb165, 1, none⟩ = some (.int .i64 0) := (Xd BK165.out 1).trans rfl; have hcz13_2 : w9.cell? ⟨gb165, 2, none⟩ = some (.int .i64 0) := (Xd BK165.out 2).trans rfl; have hfz13_0 := Xe BK165.out 0; have hfz13_1 := Xe BK165.out 1; have hfz13_2 := Xe BK165.out 2))
 refine bodyPost_ret (results_cell_row rfl _ _ gb165 32 #[.int .i64 t166, .int .i64 (wrap64 (-t167)), .int .i64 (wrap64 (-t168))] (0, 0) _ rfl (by (with_reducible repeat (first | refine Xf ?_ _ | refine Xh ?_ | refine Xg ?_ _)); refine Xj (cs := #[.int .i64 t166, .int .i64 (wrap64 (-t167)), .int .i64 0]) ?_ 2 _ rfl; (with_reducible repeat (first | refine Xf ?_ _ | refine Xh ?_ | refine Xg ?_ _)); refine Xj (cs := #[.int .i64 t166, .int .i64 0, .int .i64 0]) ?_ 1 _ rfl; (with_reducible repeat (first | refine Xf ?_ _ | refine Xh ?_ | refine Xg ?_ _)); refine Xj (cs := #[.int .i64 0, .int .i64 0, .int .i64 0]) ?_ 0 _ rfl; (with_reducible repeat (first | refine Xf ?_ _ | refine Xh ?_ | refine Xg ?_ _)); refine blk_far ?_ NB165_169.out _; (with_reducible repeat (first | refine Xf ?_ _ | refine Xh ?_ | refine Xg ?_ _)); refine blk_far ?_ NB165_169.out _; (with_reducible repeat (first | refine Xf ?_ _ | refine Xh ?_ | refine Xg ?_ _)); exact BK165.out) Try.underlying32 rfl (by kernel_rfl)) rfl ?_
 exact ⟨by first | rfl | (simp [errW_none, errW_some] <;> rfl) | (simp [*, errW_none, errW_some] <;> rfl), by repeat (first | (with_reducible first | exact HB.out | apply below_alloc | apply pw_below_drewN | apply below_drew1 | refine below_set ?_ GE164.out | refine below_set ?_ GE165.out | refine below_set ?_ GE169.out) | exact HB.out)⟩

/-! ### layer_part: function 88 -/
def layer_part.f (k : Nat) (a0_0 : Int) (a0_1 : Int) (a0_2 : Int) (a0_3 : Int) (a0_4 : Int) (a0_5 : Int) (a0_6 : Int) (a1_0 : Int) (a1_1 : Int) (a1_2 : Int) (a1_3 : Int) : Option (Int × Int × Int × Int × Int × Int × Int) := (place_Back.f k a0_4 a0_5 a0_6).bind fun bt173 => ((place_Box.f k bt173.1 bt173.2.1 bt173.2.2 a1_0 a1_1 a1_2 a1_3).bind fun bt176 => (some (bt176.1, bt176.2.1, bt176.2.2.1, bt176.2.2.2, a0_4, a0_5, a0_6)))
theorem layer_part.mono : ∀ a0 a1 a2 a3 a4 a5 a6 a7 a8 a9 a10 k, LeO (layer_part.f k a0 a1 a2 a3 a4 a5 a6 a7 a8 a9 a10) (layer_part.f (k + 1) a0 a1 a2 a3 a4 a5 a6 a7 a8 a9 a10) := by
 intro a0 a1 a2 a3 a4 a5 a6 a7 a8 a9 a10 k
 unfold layer_part.f
 repeat' first
   | (with_reducible exact place_Back.mono _ _ _ _)
   | (with_reducible exact place_Box.mono _ _ _ _ _ _ _ _)
   | (with_reducible exact LeO.refl _)
   | (with_reducible exact LeO.none _)
   | (with_reducible refine LeO.ite ?_ ?_)
   | (with_reducible refine LeO.bind ?_ (fun _ => ?_))
   | exact place_Back.mono _ _ _ _
   | exact place_Box.mono _ _ _ _ _ _ _ _
   | exact LeO.none _
   | refine LeO.ite ?_ ?_
   | refine LeO.bind ?_ (fun _ => ?_)
set_option maxHeartbeats 8000000 in
set_option maxRecDepth 100000 in
theorem layer_part.calls (k : Nat) (a0_0 : Int) (a0_1 : Int) (a0_2 : Int) (a0_3 : Int) (a0_4 : Int) (a0_5 : Int) (a0_6 : Int) (a1_0 : Int) (a1_1 : Int) (a1_2 : Int) (a1_3 : Int) (r1 : Int) (r2 : Int) (r3 : Int) (r4 : Int) (r5 : Int) (r6 : Int) (r7 : Int) (w : World) (h : layer_part.f k a0_0 a0_1 a0_2 a0_3 a0_4 a0_5 a0_6 a1_0 a1_1 a1_2 a1_3 = some (r1, r2, r3, r4, r5, r6, r7)) :
  Calls Try.prog 88 #[.agg #[.int .i64 a0_0, .int .i64 a0_1, .int .i64 a0_2, .int .i64 a0_3, .int .i64 a0_4, .int .i64 a0_5, .int .i64 a0_6], .agg #[.int .i64 a1_0, .int .i64 a1_1, .int .i64 a1_2, .int .i64 a1_3]] w fun e w' => e = .returned (.agg #[.int .i64 r1, .int .i64 r2, .int .i64 r3, .int .i64 r4, .int .i64 r5, .int .i64 r6, .int .i64 r7]) ∧ Below w.heap.size w w' := by
 have hu55 := Try.underlying55
 have hu37 := Try.underlying37
 have hu32 := Try.underlying32
 have HB := Za (Below.refl w.heap.size w)
 have H : ((place_Back.f k a0_4 a0_5 a0_6).bind fun bt173 => ((place_Box.f k bt173.1 bt173.2.1 bt173.2.2 a1_0 a1_1 a1_2 a1_3).bind fun bt176 => (some (bt176.1, bt176.2.1, bt176.2.2.1, bt176.2.2.2, a0_4, a0_5, a0_6)))) = some (r1, r2, r3, r4, r5, r6, r7) := h
 clear h
 replace H := Option.bind_eq_some_iff.mp H
 obtain ⟨⟨t173, t174, t175⟩, A30, H⟩ := H
 replace H : ((place_Box.f k t173 t174 t175 a1_0 a1_1 a1_2 a1_3).bind fun bt176 => (some (bt176.1, bt176.2.1, bt176.2.2.1, bt176.2.2.2, a0_4, a0_5, a0_6))) = some (r1, r2, r3, r4, r5, r6, r7) := H
 have A3 := Za A30
 clear A30
 replace H := Option.bind_eq_some_iff.mp H
 obtain ⟨⟨t176, t177, t178, t179⟩, A40, H⟩ := H
 replace H : (some (t176, t177, t178, t179, a0_4, a0_5, a0_6)) = some (r1, r2, r3, r4, r5, r6, r7) := H
 have A4 := Za A40
 clear A40
 simp only [Option.some.injEq, Prod.mk.injEq] at H
 obtain ⟨rfl, rfl, rfl, rfl, rfl, rfl, rfl⟩ := H
 go_enter Try.func88, Try.ntmps88
 try go_wp2_with (first | ((with_reducible refine gate_dst (N := 2) rfl ?_); refine box_event ?hg (N := 2) ?hd (cs := #[.int .i64 a0_0, .int .i64 a0_1, .int .i64 a0_2, .int .i64 a0_3, .int .i64 a0_4, .int .i64 a0_5, .int .i64 a0_6]) (t := 55) ?hr ?_; (case hd => rfl); (case hg => rfl); (case hr => first | (go_simp; done) | (go_simp; rfl)); intro gb170 hg w5 hbox hb; have n0_ := Za (Xi (hb_8 HB.out) hb); have n1_ := Za (hbox); have n2_ := Za ((by rw [hg]; exact (Xk (hb_8 HB.out)) : w.heap.size ≤ gb170)); have n3_ := Za ((by rw [hg]; exact (Xk (hb_8 HB.out)) : w.heap.size ≤ gb170)); clear HB; have HB := n0_; have BK170 := n1_; have GW170 := n2_; have GE170 := n3_; clear n0_ n1_ n2_ n3_; clear hb hbox hg) | ((with_reducible refine gate_dst (N := 3) rfl ?_); refine box_event ?hg (N := 3) ?hd (cs := #[.int .i64 a1_0, .int .i64 a1_1, .int .i64 a1_2, .int .i64 a1_3]) (t := 37) ?hr ?_; (case hd => rfl); (case hg => rfl); (case hr => first | (go_simp; done) | (go_simp; rfl)); intro gb171 hg w6 hbox hb; have n0_ := Za (Xl (g := gb170) (o := .cells #[.int .i64 a0_0, .int .i64 a0_1, .int .i64 a0_2, .int .i64 a0_3, .int .i64 a0_4, .int .i64 a0_5, .int .i64 a0_6] 55 (0, 0)) (bb_8 BK170.out) hb); have n1_ := Za (Xi (hb_8 HB.out) hb); have n2_ := Za (hbox); have n3_ := Za ((by rw [hg]; exact (Xk (hb_8 HB.out)) : w.heap.size ≤ gb171)); have n4_ := Za ((by rw [hg]; exact (Xk (hb_8 HB.out)) : w.heap.size ≤ gb171)); have n5_ := Za ((by rw [hg]; exact Nat.ne_of_lt (blk_lt (g := gb170) (o := .cells #[.int .i64 a0_0, .int .i64 a0_1, .int .i64 a0_2, .int .i64 a0_3, .int .i64 a0_4, .int .i64 a0_5, .int .i64 a0_6] 55 (0, 0)) (bb_8 BK170.out)) : gb170 ≠ gb171)); have n6_ := Za ((by rw [hg]; exact Nat.ne_of_gt (blk_lt (g := gb170) (o := .cells #[.int .i64 a0_0, .int .i64 a0_1, .int .i64 a0_2, .int .i64 a0_3, .int .i64 a0_4, .int .i64 a0_5, .int .i64 a0_6] 55 (0, 0)) (bb_8 BK170.out)) : gb171 ≠ gb170)); clear BK170; clear HB; have BK170 := n0_; have HB := n1_; have BK171 := n2_; have GW171 := n3_; have GE171 := n4_; have NB170_171 := n5_; have NB171_170 := n6_; clear n0_ n1_ n2_ n3_ n4_ n5_ n6_; clear hb hbox hg) | ((with_reducible refine gate_dst (N := 4) rfl ?_); refine box_event ?hg (N := 4) ?hd (cs := #[.int .i64 0, .int .i64 0, .int .i64 0, .int .i64 0, .int .i64 0, .int .i64 0, .int .i64 0]) (t := 55) ?hr ?_; (case hd => rfl); (case hg => rfl); (case hr => first | (go_simp; done) | (go_simp; rfl)); intro gb172 hg w7 hbox hb; have n0_ := Za (Xl (g := gb170) (o := .cells #[.int .i64 a0_0, .int .i64 a0_1, .int .i64 a0_2, .int .i64 a0_3, .int .i64 a0_4, .int .i64 a0_5, .int .i64 a0_6] 55 (0, 0)) (bb_8 BK170.out) hb); have n1_ := Za (Xl (g := gb171) (o := .cells #[.int .i64 a1_0, .int .i64 a1_1, .int .i64 a1_2, .int .i64 a1_3] 37 (0, 0)) (bb_8 BK171.out) hb); have n2_ := Za (Xi (hb_8 HB.out) hb); have n3_ := Za (hbox); have n4_ := Za ((by rw [hg]; exact (Xk (hb_8 HB.out)) : w.heap.size ≤ gb172)); have n5_ := Za ((by rw [hg]; exact (Xk (hb_8 HB.out)) : w.heap.size ≤ gb172)); have n6_ := Za ((by rw [hg]; exact Nat.ne_of_lt (blk_lt (g := gb170) (o := .cells #[.int .i64 a0_0, .int .i64 a0_1, .int .i64 a0_2, .int .i64 a0_3, .int .i64 a0_4, .int .i64 a0_5, .int .i64 a0_6] 55 (0, 0)) (bb_8 BK170.out)) : gb170 ≠ gb172)); have n7_ := Za ((by rw [hg]; exact Nat.ne_of_gt (blk_lt (g := gb170) (o := .cells #[.int .i64 a0_0, .int .i64 a0_1, .int .i64 a0_2, .int .i64 a0_3, .int .i64 a0_4, .int .i64 a0_5, .int .i64 a0_6] 55 (0, 0)) (bb_8 BK170.out)) : gb172 ≠ gb170)); have n8_ := Za ((by rw [hg]; exact Nat.ne_of_lt (blk_lt (g := gb171) (o := .cells #[.int .i64 a1_0, .int .i64 a1_1, .int .i64 a1_2, .int .i64 a1_3] 37 (0, 0)) (bb_8 BK171.out)) : gb171 ≠ gb172)); have n9_ := Za ((by rw [hg]; exact Nat.ne_of_gt (blk_lt (g := gb171) (o := .cells #[.int .i64 a1_0, .int .i64 a1_1, .int .i64 a1_2, .int .i64 a1_3] 37 (0, 0)) (bb_8 BK171.out)) : gb172 ≠ gb171)); clear BK170; clear BK171; clear HB; have BK170 := n0_; have BK171 := n1_; have HB := n2_; have BK172 := n3_; have GW172 := n4_; have GE172 := n5_; have NB170_172 := n6_; have NB172_170 := n7_; have NB171_172 := n8_; have NB172_171 := n9_; clear n0_ n1_ n2_ n3_ n4_ n5_ n6_ n7_ n8_ n9_; clear hb hbox hg))
 have n0_ := Za (Xh BK170.out)
 have n1_ := Za (Xh BK171.out)
 have n2_ := Za (Xh BK172.out)
 have n3_ := Za (below_drew1 HB.out)
 clear BK170
 clear BK171
 clear BK172
 clear HB
 have BK170 := n0_
 have BK171 := n1_
 have BK172 := n2_
 have HB := n3_
 clear n0_ n1_ n2_ n3_
 refine start_ (n := 7) (S := fun w' => w'.cell? ⟨gb170, 0, none⟩ = some (.int .i64 a0_0) ∧ w'.cell? ⟨gb170, 1, none⟩ = some (.int .i64 a0_1) ∧ w'.cell? ⟨gb170, 2, none⟩ = some (.int .i64 a0_2) ∧ w'.cell? ⟨gb170, 3, none⟩ = some (.int .i64 a0_3) ∧ w'.cell? ⟨gb170, 4, none⟩ = some (.int .i64 a0_4) ∧ w'.cell? ⟨gb170, 5, none⟩ = some (.int .i64 a0_5) ∧ w'.cell? ⟨gb170, 6, none⟩ = some (.int .i64 a0_6) ∧ w'.cell? ⟨gb171, 0, none⟩ = some (.int .i64 a1_0) ∧ w'.cell? ⟨gb171, 1, none⟩ = some (.int .i64 a1_1) ∧ w'.cell? ⟨gb171, 2, none⟩ = some (.int .i64 a1_2) ∧ w'.cell? ⟨gb171, 3, none⟩ = some (.int .i64 a1_3)) (ds := [6]) #[Zf,Zf,Zf,Zf,Zf,Zf,Zf] (by kernel_rfl) rfl rfl ⟨(Xd BK170.out 0).trans rfl, (Xd BK170.out 1).trans rfl, (Xd BK170.out 2).trans rfl, (Xd BK170.out 3).trans rfl, (Xd BK170.out 4).trans rfl, (Xd BK170.out 5).trans rfl, (Xd BK170.out 6).trans rfl, (Xd BK171.out 0).trans rfl, (Xd BK171.out 1).trans rfl, (Xd BK171.out 2).trans rfl, (Xd BK171.out 3).trans rfl⟩ (fun hHeld => ?_)
 generalize w7.drew = w8 at BK170 BK171 BK172 HB hHeld ⊢
 refine pure_ (i := 0) (N := some 5) (v := ?_) (a' := ?_) #[Zt,Zf,Zf,Zf,Zf,Zf,Zf] rfl rfl (by kernel_rfl) (fun _ _ _ h => h) (Or.inl ⟨by rfl, ?_⟩) ?_ ?_
 rotate_left
 ·intro w'
  go_simp
  with_reducible rfl
 rotate_left
 ·simp only [Act.put, Xa, Xb, Xc, i64_w, i32_w]
  rfl
 refine take_ (i := 1) (N := some 6) (v := ?_) (a' := ?_) #[Zt,Zt,Zf,Zf,Zf,Zf,Zf] rfl rfl (by kernel_rfl) (fun _ _ _ h => h) (Or.inl ⟨by rfl, ?_⟩) hHeld ?_ ?_
 rotate_left
 ·rintro w' ⟨s0, s1, s2, s3, s4, s5, s6, s7, s8, s9, s10⟩
  go_simp
  with_reducible rfl
 rotate_left
 ·simp only [Act.put, Xa, Xb, Xc, i64_w, i32_w]
  rfl
 refine take_ (i := 3) (N := some 8) (v := ?_) (a' := ?_) #[Zt,Zt,Zf,Zt,Zf,Zf,Zf] rfl rfl (by kernel_rfl) (fun _ _ _ h => h) (Or.inl ⟨by rfl, ?_⟩) hHeld ?_ ?_
 rotate_left
 ·rintro w' ⟨s0, s1, s2, s3, s4, s5, s6, s7, s8, s9, s10⟩
  go_simp
  with_reducible rfl
 rotate_left
 ·simp only [Act.put, Xa, Xb, Xc, i64_w, i32_w]
  rfl
 refine one_ (i := 2) (N := some 7) #[Zt,Zt,Zt,Zt,Zf,Zf,Zf] rfl rfl (by kernel_rfl) (by decide) (fun K hK => ?_)
 refine goes_ Try.func99 (by kernel_rfl) rfl #[.agg #[.int .i64 a0_4, .int .i64 a0_5, .int .i64 a0_6]] (by rfl) rfl rfl (by (try simp only [List.map_toArray, List.map_cons, List.map_nil]); first | done | rfl | (simp only [List.length_drop, List.length_take]; rfl)) ?_
 with_reducible refine (place_Back.calls k a0_4 a0_5 a0_6 t173 t174 t175 _ A3.out).mono ?_
 rintro e w9 ⟨rfl, hb⟩
 refine ⟨_, rfl, ?_⟩
 have n0_ := Za (Xl (g := gb170) (o := .cells #[.int .i64 a0_0, .int .i64 a0_1, .int .i64 a0_2, .int .i64 a0_3, .int .i64 a0_4, .int .i64 a0_5, .int .i64 a0_6] 55 (0, 0)) (bb_8 BK170.out) hb)
 have n1_ := Za (Xl (g := gb171) (o := .cells #[.int .i64 a1_0, .int .i64 a1_1, .int .i64 a1_2, .int .i64 a1_3] 37 (0, 0)) (bb_8 BK171.out) hb)
 have n2_ := Za (Xl (g := gb172) (o := .cells #[.int .i64 0, .int .i64 0, .int .i64 0, .int .i64 0, .int .i64 0, .int .i64 0, .int .i64 0] 55 (0, 0)) (bb_8 BK172.out) hb)
 have n3_ := Za (Xi (hb_8 HB.out) hb)
 clear BK170
 clear BK171
 clear BK172
 clear HB
 have BK170 := n0_
 have BK171 := n1_
 have BK172 := n2_
 have HB := n3_
 clear n0_ n1_ n2_ n3_
 (try clear hb)
 (try clear hb2)
 (try clear hk)
 (try clear hi)
 refine hK.out _ _ ⟨(Xd BK170.out 0).trans rfl, (Xd BK170.out 1).trans rfl, (Xd BK170.out 2).trans rfl, (Xd BK170.out 3).trans rfl, (Xd BK170.out 4).trans rfl, (Xd BK170.out 5).trans rfl, (Xd BK170.out 6).trans rfl, (Xd BK171.out 0).trans rfl, (Xd BK171.out 1).trans rfl, (Xd BK171.out 2).trans rfl, (Xd BK171.out 3).trans rfl⟩ (fun hHeld => ?_)
 clear hK K
 refine norm_ (a' := ?_) ?_ ?_
 rotate_left
 ·show Act.put _ (some 7) _ = _
  simp only [Act.put, Xa, Xb, Xc, i64_w, i32_w]
  rfl
 refine one_ (i := 4) (N := some 9) #[Zt,Zt,Zt,Zt,Zt,Zf,Zf] rfl rfl (by kernel_rfl) (by decide) (fun K hK => ?_)
 refine goes_ Try.func83 (by kernel_rfl) rfl #[.agg #[.int .i64 t173, .int .i64 t174, .int .i64 t175], .agg #[.int .i64 a1_0, .int .i64 a1_1, .int .i64 a1_2, .int .i64 a1_3]] (by rfl) rfl rfl (by (try simp only [List.map_toArray, List.map_cons, List.map_nil]); first | done | rfl | (simp only [List.length_drop, List.length_take]; rfl)) ?_
 with_reducible refine (place_Box.calls k t173 t174 t175 a1_0 a1_1 a1_2 a1_3 t176 t177 t178 t179 _ A4.out).mono ?_
 rintro e w10 ⟨rfl, hb⟩
 refine ⟨_, rfl, ?_⟩
 have n0_ := Za (Xl (g := gb170) (o := .cells #[.int .i64 a0_0, .int .i64 a0_1, .int .i64 a0_2, .int .i64 a0_3, .int .i64 a0_4, .int .i64 a0_5, .int .i64 a0_6] 55 (0, 0)) (bb_8 BK170.out) hb)
 have n1_ := Za (Xl (g := gb171) (o := .cells #[.int .i64 a1_0, .int .i64 a1_1, .int .i64 a1_2, .int .i64 a1_3] 37 (0, 0)) (bb_8 BK171.out) hb)
 have n2_ := Za (Xl (g := gb172) (o := .cells #[.int .i64 0, .int .i64 0, .int .i64 0, .int .i64 0, .int .i64 0, .int .i64 0, .int .i64 0] 55 (0, 0)) (bb_8 BK172.out) hb)
 have n3_ := Za (Xi (hb_8 HB.out) hb)
 clear BK170
 clear BK171
 clear BK172
 clear HB
 have BK170 := n0_
 have BK171 := n1_
 have BK172 := n2_
 have HB := n3_
 clear n0_ n1_ n2_ n3_
 (try clear hb)
 (try clear hb2)
 (try clear hk)
 (try clear hi)
 refine hK.out _ _ ⟨(Xd BK170.out 0).trans rfl, (Xd BK170.out 1).trans rfl, (Xd BK170.out 2).trans rfl, (Xd BK170.out 3).trans rfl, (Xd BK170.out 4).trans rfl, (Xd BK170.out 5).trans rfl, (Xd BK170.out 6).trans rfl, (Xd BK171.out 0).trans rfl, (Xd BK171.out 1).trans rfl, (Xd BK171.out 2).trans rfl, (Xd BK171.out 3).trans rfl⟩ (fun hHeld => ?_)
 clear hK K
 refine norm_ (a' := ?_) ?_ ?_
 rotate_left
 ·show Act.put _ (some 9) _ = _
  simp only [Act.put, Xa, Xb, Xc, i64_w, i32_w]
  rfl
 refine pure_ (i := 5) (N := some 10) (v := ?_) (a' := ?_) #[Zt,Zt,Zt,Zt,Zt,Zt,Zf] rfl rfl (by kernel_rfl) (fun _ _ _ h => h) (Or.inl ⟨by rfl, ?_⟩) ?_ ?_
 rotate_left
 ·intro w'
  go_simp
  with_reducible rfl
 rotate_left
 ·simp only [Act.put, Xa, Xb, Xc, i64_w, i32_w]
  rfl
 refine last_ (i := 6) (N := none) #[Zt,Zt,Zt,Zt,Zt,Zt,Zt] rfl rfl (by kernel_rfl) (by decide) (fun K hK => ?_)
 have hs11 : w10.cell? ⟨gb170, 0, none⟩ = some (.int .i64 a0_0) := (Xd BK170.out 0).trans rfl
 have hfs11 := Xe BK170.out 0
 have hns11_1 := NB171_170.out
 have hns11_2 := NB172_170.out
 have hms11_1 := NB170_171.out
 have hms11_2 := NB170_172.out
 have hs12 : w10.cell? ⟨gb170, 1, none⟩ = some (.int .i64 a0_1) := (Xd BK170.out 1).trans rfl
 have hfs12 := Xe BK170.out 1
 have hns12_1 := NB171_170.out
 have hns12_2 := NB172_170.out
 have hms12_1 := NB170_171.out
 have hms12_2 := NB170_172.out
 have hs13 : w10.cell? ⟨gb170, 2, none⟩ = some (.int .i64 a0_2) := (Xd BK170.out 2).trans rfl
 have hfs13 := Xe BK170.out 2
 have hns13_1 := NB171_170.out
 have hns13_2 := NB172_170.out
 have hms13_1 := NB170_171.out
 have hms13_2 := NB170_172.out
 have hs14 : w10.cell? ⟨gb170, 3, none⟩ = some (.int .i64 a0_3) := (Xd BK170.out 3).trans rfl
 have hfs14 := Xe BK170.out 3
 have hns14_1 := NB171_170.out
 have hns14_2 := NB172_170.out
 have hms14_1 := NB170_171.out
 have hms14_2 := NB170_172.out
 refine skip_ (w1 := ?_) (by rfl) rfl ?_ ?_
 rotate_left
 ·go_simp
  rfl
 refine hK.out _ _ ?_
 clear hK K
 refine done_ (by kernel_rfl) ?_
 have hnb15 := NB170_171.out
 have hnc15 := NB171_170.out
 have hnb16 := NB170_172.out
 have hnc16 := NB172_170.out
 have hcz17_0 : w10.cell? ⟨gb170, 0, none⟩ = some (.int .i64 a0_0) := (Xd BK170.out 0).trans rfl
 have hcz17_1 : w10.cell? ⟨gb170, 1, none⟩ = some (.int .i64 a0_1) := (Xd BK170.out 1).trans rfl
 have hcz17_2 : w10.cell? ⟨gb170, 2, none⟩ = some (.int .i64 a0_2) := (Xd BK170.out 2).trans rfl
 have hcz17_3 : w10.cell? ⟨gb170, 3, none⟩ = some (.int .i64 a0_3) := (Xd BK170.out 3).trans rfl
 have hcz17_4 : w10.cell? ⟨gb170, 4, none⟩ = some (.int .i64 a0_4) := (Xd BK170.out 4).trans rfl
 have hcz17_5 : w10.cell? ⟨gb170, 5, none⟩ = some (.int .i64 a0_5) := (Xd BK170.out 5).trans rfl
 have hcz17_6 : w10.cell? ⟨gb170, 6, none⟩ = some (.int .i64 a0_6) := (Xd BK170.out 6).trans rfl
 have hfz17_0 := Xe BK170.out 0
 have hfz17_1 := Xe BK170.out 1
 have hfz17_2 := Xe BK170.out 2
 have hfz17_3 := Xe BK170.out 3
 have hfz17_4 := Xe BK170.out 4
 have hfz17_5 := Xe BK170.out 5
 have hfz17_6 := Xe BK170.out 6
 have hnb18 := NB172_171.out
 have hnc18 := NB171_172.out
 have hcz19_0 : w10.cell? ⟨gb172, 0, none⟩ = some (.int .i64 0) := (Xd BK172.out 0).trans rfl
 have hcz19_1 : w10.cell? ⟨gb172, 1, none⟩ = some (.int .i64 0) := (Xd BK172.out 1).trans rfl
 have hcz19_2 : w10.cell? ⟨gb172, 2, none⟩ = some (.int .i64 0) := (Xd BK172.out 2).trans rfl
 have hcz19_3 : w10.cell? ⟨gb172, 3, none⟩ = some (.int .i64 0) := (Xd BK172.out 3).trans rfl
 have hcz19_4 : w10.cell? ⟨gb172, 4, none⟩ = some (.int .i64 0) := (Xd BK172.out 4).trans rfl
 have hcz19_5 : w10.cell? ⟨gb172, 5, none⟩ = some (.int .i64 0) := (Xd BK172.out 5).trans rfl
 have hcz19_6 : w10.cell? ⟨gb172, 6, none⟩ = some (.int .i64 0) := (Xd BK172.out 6).trans rfl
 have hfz19_0 := Xe BK172.out 0
 have hfz19_1 := Xe BK172.out 1
 have hfz19_2 := Xe BK172.out 2
 have hfz19_3 := Xe BK172.out 3
 have hfz19_4 := Xe BK172.out 4
 have hfz19_5 := Xe BK172.out 5
 have hfz19_6 := Xe BK172.out 6
 try go_wp2
 refine bodyPost_ret (results_cell_row rfl _ _ gb172 55 #[.int .i64 t176, .int .i64 t177, .int .i64 t178, .int .i64 t179, .int .i64 a0_4, .int .i64 a0_5, .int .i64 a0_6] (0, 0) _ rfl (by (with_reducible repeat (first | refine Xf ?_ _ | refine Xh ?_ | refine Xg ?_ _)); refine Xj (cs := #[.int .i64 t176, .int .i64 t177, .int .i64 t178, .int .i64 t179, .int .i64 a0_4, .int .i64 a0_5, .int .i64 0]) ?_ 6 _ rfl; (with_reducible repeat (first | refine Xf ?_ _ | refine Xh ?_ | refine Xg ?_ _)); refine Xj (cs := #[.int .i64 t176, .int .i64 t177, .int .i64 t178, .int .i64 t179, .int .i64 a0_4, .int .i64 0, .int .i64 0]) ?_ 5 _ rfl; (with_reducible repeat (first | refine Xf ?_ _ | refine Xh ?_ | refine Xg ?_ _)); refine Xj (cs := #[.int .i64 t176, .int .i64 t177, .int .i64 t178, .int .i64 t179, .int .i64 0, .int .i64 0, .int .i64 0]) ?_ 4 _ rfl; (with_reducible repeat (first | refine Xf ?_ _ | refine Xh ?_ | refine Xg ?_ _)); refine Xj (cs := #[.int .i64 t176, .int .i64 t177, .int .i64 t178, .int .i64 0, .int .i64 0, .int .i64 0, .int .i64 0]) ?_ 3 _ rfl; (with_reducible repeat (first | refine Xf ?_ _ | refine Xh ?_ | refine Xg ?_ _)); refine Xj (cs := #[.int .i64 t176, .int .i64 t177, .int .i64 0, .int .i64 0, .int .i64 0, .int .i64 0, .int .i64 0]) ?_ 2 _ rfl; (with_reducible repeat (first | refine Xf ?_ _ | refine Xh ?_ | refine Xg ?_ _)); refine Xj (cs := #[.int .i64 t176, .int .i64 0, .int .i64 0, .int .i64 0, .int .i64 0, .int .i64 0, .int .i64 0]) ?_ 1 _ rfl; (with_reducible repeat (first | refine Xf ?_ _ | refine Xh ?_ | refine Xg ?_ _)); refine Xj (cs := #[.int .i64 0, .int .i64 0, .int .i64 0, .int .i64 0, .int .i64 0, .int .i64 0, .int .i64 0]) ?_ 0 _ rfl; (with_reducible repeat (first | refine Xf ?_ _ | refine Xh ?_ | refine Xg ?_ _)); refine blk_far ?_ NB172_170.out _; (with_reducible repeat (first | refine Xf ?_ _ | refine Xh ?_ | refine Xg ?_ _)); refine blk_far ?_ NB172_170.out _; (with_reducible repeat (first | refine Xf ?_ _ | refine Xh ?_ | refine Xg ?_ _)); refine blk_far ?_ NB172_170.out _; (with_reducible repeat (first | refine Xf ?_ _ | refine Xh ?_ | refine Xg ?_ _)); refine blk_far ?_ NB172_170.out _; (with_reducible repeat (first | refine Xf ?_ _ | refine Xh ?_ | refine Xg ?_ _)); exact BK172.out) Try.underlying55 rfl (by kernel_rfl)) rfl ?_
 exact ⟨by first | rfl | (simp [errW_none, errW_some] <;> rfl) | (simp [*, errW_none, errW_some] <;> rfl), by repeat (first | (with_reducible first | exact HB.out | apply below_alloc | apply pw_below_drewN | apply below_drew1 | refine below_set ?_ GE170.out | refine below_set ?_ GE171.out | refine below_set ?_ GE172.out) | exact HB.out)⟩

/-! ### layer_Cut: function 44 -/
def layer_Cut.f (k : Nat) (a0_0 : Int) (a0_1 : Int) (a0_2 : Int) (a0_3 : Int) (a0_4 : Int) (a0_5 : Int) (a0_6 : Int) (a1 : Bool) (a2 : Int) : Option ((List (S55))) := (box_Empty.f a0_0 a0_1 a0_2 a0_3).bind fun t181 => (if t181 = Zt then (some ([] : List (S55))) else ((layer_Lies.f k a0_0 a0_1 a0_2 a0_3 a0_4 a0_5 a0_6).bind fun bt182 => ((box_Split.f k bt182.1 bt182.2.1 bt182.2.2.1 bt182.2.2.2 a1 a2).bind fun t186 => (if (t186.length : Int) < 2 then (some (([(⟨(⟨a0_0, a0_1, a0_2, a0_3⟩ : S37), (⟨a0_4, a0_5, a0_6⟩ : S32)⟩ : S55)] : List (S55)))) else (if 0 < (t186.length : Int) then ((layer_part.f k a0_0 a0_1 a0_2 a0_3 a0_4 a0_5 a0_6 ((rd_T37 t186 0).f0) ((rd_T37 t186 0).f1) ((rd_T37 t186 0).f2) ((rd_T37 t186 0).f3)).bind fun bt193 => (if 1 < (t186.length : Int) then ((layer_part.f k a0_0 a0_1 a0_2 a0_3 a0_4 a0_5 a0_6 ((rd_T37 t186 1).f0) ((rd_T37 t186 1).f1) ((rd_T37 t186 1).f2) ((rd_T37 t186 1).f3)).bind fun bt201 => (some (([(⟨(⟨bt193.1, bt193.2.1, bt193.2.2.1, bt193.2.2.2.1⟩ : S37), (⟨bt193.2.2.2.2.1, bt193.2.2.2.2.2.1, bt193.2.2.2.2.2.2⟩ : S32)⟩ : S55), (⟨(⟨bt201.1, bt201.2.1, bt201.2.2.1, bt201.2.2.2.1⟩ : S37), (⟨bt201.2.2.2.2.1, bt201.2.2.2.2.2.1, bt201.2.2.2.2.2.2⟩ : S32)⟩ : S55)] : List (S55))))) else (none))) else (none))))))
theorem layer_Cut.mono : ∀ a0 a1 a2 a3 a4 a5 a6 a7 a8 k, LeO (layer_Cut.f k a0 a1 a2 a3 a4 a5 a6 a7 a8) (layer_Cut.f (k + 1) a0 a1 a2 a3 a4 a5 a6 a7 a8) := by
 intro a0 a1 a2 a3 a4 a5 a6 a7 a8 k
 unfold layer_Cut.f
 repeat' first
   | (with_reducible exact box_Split.mono _ _ _ _ _ _ _)
   | (with_reducible exact layer_Lies.mono _ _ _ _ _ _ _ _)
   | (with_reducible exact layer_part.mono _ _ _ _ _ _ _ _ _ _ _ _)
   | (with_reducible exact LeO.refl _)
   | (with_reducible exact LeO.none _)
   | (with_reducible refine LeO.ite ?_ ?_)
   | (with_reducible refine LeO.bind ?_ (fun _ => ?_))
   | exact box_Split.mono _ _ _ _ _ _ _
   | exact layer_Lies.mono _ _ _ _ _ _ _ _
   | exact layer_part.mono _ _ _ _ _ _ _ _ _ _ _ _
   | exact LeO.none _
   | refine LeO.ite ?_ ?_
   | refine LeO.bind ?_ (fun _ => ?_)
def layer_Cut.T6 : Bool × List (List Nat × List Nat) := (Zt, [([], []), ([], []), ([1], [1]), ([2], [2]), ([0, 3], [0, 3]), ([], []), ([], []), ([6], [6]), ([7], [7]), ([5, 8, 4], [5, 8]), ([4, 9], [4, 9]), ([10, 9, 0, 1, 2, 3, 4, 5, 6, 7, 8, 9, 10], [10])])
def layer_Cut.B6 : List Nat := [0, 0, 2, 6, 15, 0, 0, 64, 192, 511, 1023, 2047]
theorem layer_Cut.tab6 : rtab .any (opsOf Try.f44 6) = layer_Cut.T6 := by kernel_rfl
theorem layer_Cut.bits6 : waitsOk layer_Cut.T6.2 layer_Cut.B6 = Zt := by kernel_rfl
set_option maxHeartbeats 8000000 in
set_option maxRecDepth 100000 in
theorem layer_Cut.calls (k : Nat) (a0_0 : Int) (a0_1 : Int) (a0_2 : Int) (a0_3 : Int) (a0_4 : Int) (a0_5 : Int) (a0_6 : Int) (a1 : Bool) (a2 : Int) (r : List (S55)) (w : World) (h : layer_Cut.f k a0_0 a0_1 a0_2 a0_3 a0_4 a0_5 a0_6 a1 a2 = some r) :
  Calls Try.prog 44 #[.agg #[.int .i64 a0_0, .int .i64 a0_1, .int .i64 a0_2, .int .i64 a0_3, .int .i64 a0_4, .int .i64 a0_5, .int .i64 a0_6], .bool a1, .int .i64 a2] w fun e w' => ∃ v0_ : Value, e = .returned (v0_) ∧ Kd.R k55 55 w' w.heap.size (fun _ => True) v0_ r ∧ Below w.heap.size w w' := by
 have hu55 := Try.underlying55
 have hu37 := Try.underlying37
 have HB := Za (Below.refl w.heap.size w)
 have H : ((box_Empty.f a0_0 a0_1 a0_2 a0_3).bind fun t181 => (if t181 = Zt then (some ([] : List (S55))) else ((layer_Lies.f k a0_0 a0_1 a0_2 a0_3 a0_4 a0_5 a0_6).bind fun bt182 => ((box_Split.f k bt182.1 bt182.2.1 bt182.2.2.1 bt182.2.2.2 a1 a2).bind fun t186 => (if (t186.length : Int) < 2 then (some (([(⟨(⟨a0_0, a0_1, a0_2, a0_3⟩ : S37), (⟨a0_4, a0_5, a0_6⟩ : S32)⟩ : S55)] : List (S55)))) else (if 0 < (t186.length : Int) then ((layer_part.f k a0_0 a0_1 a0_2 a0_3 a0_4 a0_5 a0_6 ((rd_T37 t186 0).f0) ((rd_T37 t186 0).f1) ((rd_T37 t186 0).f2) ((rd_T37 t186 0).f3)).bind fun bt193 => (if 1 < (t186.length : Int) then ((layer_part.f k a0_0 a0_1 a0_2 a0_3 a0_4 a0_5 a0_6 ((rd_T37 t186 1).f0) ((rd_T37 t186 1).f1) ((rd_T37 t186 1).f2) ((rd_T37 t186 1).f3)).bind fun bt201 => (some (([(⟨(⟨bt193.1, bt193.2.1, bt193.2.2.1, bt193.2.2.2.1⟩ : S37), (⟨bt193.2.2.2.2.1, bt193.2.2.2.2.2.1, bt193.2.2.2.2.2.2⟩ : S32)⟩ : S55), (⟨(⟨bt201.1, bt201.2.1, bt201.2.2.1, bt201.2.2.2.1⟩ : S37), (⟨bt201.2.2.2.2.1, bt201.2.2.2.2.2.1, bt201.2.2.2.2.2.2⟩ : S32)⟩ : S55)] : List (S55))))) else (none))) else (none))))))) = some r := h
 clear h
 replace H := Option.bind_eq_some_iff.mp H
 obtain ⟨t181, A40, H⟩ := H
 replace H : (if t181 = Zt then (some ([] : List (S55))) else ((layer_Lies.f k a0_0 a0_1 a0_2 a0_3 a0_4 a0_5 a0_6).bind fun bt182 => ((box_Split.f k bt182.1 bt182.2.1 bt182.2.2.1 bt182.2.2.2 a1 a2).bind fun t186 => (if (t186.length : Int) < 2 then (some (([(⟨(⟨a0_0, a0_1, a0_2, a0_3⟩ : S37), (⟨a0_4, a0_5, a0_6⟩ : S32)⟩ : S55)] : List (S55)))) else (if 0 < (t186.length : Int) then ((layer_part.f k a0_0 a0_1 a0_2 a0_3 a0_4 a0_5 a0_6 ((rd_T37 t186 0).f0) ((rd_T37 t186 0).f1) ((rd_T37 t186 0).f2) ((rd_T37 t186 0).f3)).bind fun bt193 => (if 1 < (t186.length : Int) then ((layer_part.f k a0_0 a0_1 a0_2 a0_3 a0_4 a0_5 a0_6 ((rd_T37 t186 1).f0) ((rd_T37 t186 1).f1) ((rd_T37 t186 1).f2) ((rd_T37 t186 1).f3)).bind fun bt201 => (some (([(⟨(⟨bt193.1, bt193.2.1, bt193.2.2.1, bt193.2.2.2.1⟩ : S37), (⟨bt193.2.2.2.2.1, bt193.2.2.2.2.2.1, bt193.2.2.2.2.2.2⟩ : S32)⟩ : S55), (⟨(⟨bt201.1, bt201.2.1, bt201.2.2.1, bt201.2.2.2.1⟩ : S37), (⟨bt201.2.2.2.2.1, bt201.2.2.2.2.2.1, bt201.2.2.2.2.2.2⟩ : S32)⟩ : S55)] : List (S55))))) else (none))) else (none)))))) = some r := H
 have A4 := Za A40
 clear A40
 by_cases c5 : t181 = Zt
 ·subst c5
  have H1 : (some ([] : List (S55))) = some r := by rw [if_pos rfl] at H; exact H
  clear H
  have H := H1
  clear H1
  obtain rfl := Option.some.inj H
  go_enter Try.func44, Try.ntmps44
  go_wp2_with (first | ((with_reducible refine gate_dst (N := 3) rfl ?_); refine box_event ?hg (N := 3) ?hd (cs := #[.int .i64 a0_0, .int .i64 a0_1, .int .i64 a0_2, .int .i64 a0_3, .int .i64 a0_4, .int .i64 a0_5, .int .i64 a0_6]) (t := 55) ?hr ?_; (case hd => rfl); (case hg => rfl); (case hr => first | (go_simp; done) | (go_simp; rfl)); intro gb180 hg w6 hbox hb; have n0_ := Za (Xi (hb_8 HB.out) hb); have n1_ := Za (hbox); have n2_ := Za ((by rw [hg]; exact (Xk (hb_8 HB.out)) : w.heap.size ≤ gb180)); have n3_ := Za ((by rw [hg]; exact (Xk (hb_8 HB.out)) : w.heap.size ≤ gb180)); clear HB; have HB := n0_; have BK180 := n1_; have GW180 := n2_; have GE180 := n3_; clear n0_ n1_ n2_ n3_; clear hb hbox hg; have hcz7_0 : w6.cell? ⟨gb180, 0, none⟩ = some (.int .i64 a0_0) := (Xd BK180.out 0).trans rfl; have hcz7_1 : w6.cell? ⟨gb180, 1, none⟩ = some (.int .i64 a0_1) := (Xd BK180.out 1).trans rfl; have hcz7_2 : w6.cell? ⟨gb180, 2, none⟩ = some (.int .i64 a0_2) := (Xd BK180.out 2).trans rfl; have hcz7_3 : w6.cell? ⟨gb180, 3, none⟩ = some (.int .i64 a0_3) := (Xd BK180.out 3).trans rfl; have hcz7_4 : w6.cell? ⟨gb180, 4, none⟩ = some (.int .i64 a0_4) := (Xd BK180.out 4).trans rfl; have hcz7_5 : w6.cell? ⟨gb180, 5, none⟩ = some (.int .i64 a0_5) := (Xd BK180.out 5).trans rfl; have hcz7_6 : w6.cell? ⟨gb180, 6, none⟩ = some (.int .i64 a0_6) := (Xd BK180.out 6).trans rfl; have hfz7_0 := Xe BK180.out 0; have hfz7_1 := Xe BK180.out 1; have hfz7_2 := Xe BK180.out 2; have hfz7_3 := Xe BK180.out 3; have hfz7_4 := Xe BK180.out 4; have hfz7_5 := Xe BK180.out 5; have hfz7_6 := Xe BK180.out 6) | ((with_reducible refine Xm (f := 86) rfl ?_); refine goesL_ (some 10) rfl rfl Try.func86 (by kernel_rfl) rfl #[.agg #[.int .i64 a0_0, .int .i64 a0_1, .int .i64 a0_2, .int .i64 a0_3]] rfl (by (try simp only [List.map_toArray, List.map_cons, List.map_nil]); first | done | rfl | (simp only [List.length_drop, List.length_take]; rfl)) ?_; (with_reducible refine (box_Empty.calls a0_0 a0_1 a0_2 a0_3 Zt _ A4.out).mono ?_); rintro e w8 ⟨rfl, hb⟩; refine ⟨_, rfl, ?_⟩; have n0_ := Za (Xl (g := gb180) (o := .cells #[.int .i64 a0_0, .int .i64 a0_1, .int .i64 a0_2, .int .i64 a0_3, .int .i64 a0_4, .int .i64 a0_5, .int .i64 a0_6] 55 (0, 0)) (bb_8 BK180.out) hb); have n1_ := Za (Xi (hb_8 HB.out) hb); clear BK180; clear HB; have BK180 := n0_; have HB := n1_; clear n0_ n1_; (try clear hb); (try clear hb2); (try clear hk); (try clear hi)))
  go_ret
  exact ⟨_, by first | rfl | (simp [errW_none, errW_some] <;> rfl) | (simp [*, errW_none, errW_some] <;> rfl), by first | exact Kd.R_nil _ _ _ _ _ | exact Kd.N_nil _ _ _ _ _ | exact Kd.V_nil _ _ _ _ _ | exact Kd.Q_nil _ _ _ _ _ | exact Kd.S_nil _ _ _ _ _, by repeat (first | (with_reducible first | exact HB.out | apply below_alloc | apply pw_below_drewN | apply below_drew1 | refine below_set ?_ GE180.out) | exact HB.out)⟩
 ·replace c5 := Bool.eq_false_iff.mpr c5
  subst c5
  have H1 : ((layer_Lies.f k a0_0 a0_1 a0_2 a0_3 a0_4 a0_5 a0_6).bind fun bt182 => ((box_Split.f k bt182.1 bt182.2.1 bt182.2.2.1 bt182.2.2.2 a1 a2).bind fun t186 => (if (t186.length : Int) < 2 then (some (([(⟨(⟨a0_0, a0_1, a0_2, a0_3⟩ : S37), (⟨a0_4, a0_5, a0_6⟩ : S32)⟩ : S55)] : List (S55)))) else (if 0 < (t186.length : Int) then ((layer_part.f k a0_0 a0_1 a0_2 a0_3 a0_4 a0_5 a0_6 ((rd_T37 t186 0).f0) ((rd_T37 t186 0).f1) ((rd_T37 t186 0).f2) ((rd_T37 t186 0).f3)).bind fun bt193 => (if 1 < (t186.length : Int) then ((layer_part.f k a0_0 a0_1 a0_2 a0_3 a0_4 a0_5 a0_6 ((rd_T37 t186 1).f0) ((rd_T37 t186 1).f1) ((rd_T37 t186 1).f2) ((rd_T37 t186 1).f3)).bind fun bt201 => (some (([(⟨(⟨bt193.1, bt193.2.1, bt193.2.2.1, bt193.2.2.2.1⟩ : S37), (⟨bt193.2.2.2.2.1, bt193.2.2.2.2.2.1, bt193.2.2.2.2.2.2⟩ : S32)⟩ : S55), (⟨(⟨bt201.1, bt201.2.1, bt201.2.2.1, bt201.2.2.2.1⟩ : S37), (⟨bt201.2.2.2.2.1, bt201.2.2.2.2.2.1, bt201.2.2.2.2.2.2⟩ : S32)⟩ : S55)] : List (S55))))) else (none))) else (none))))) = some r := by rw [if_neg (show ¬ (Zf = Zt) by decide)] at H; exact H
  clear H
  have H := H1
  clear H1
  replace H := Option.bind_eq_some_iff.mp H
  obtain ⟨⟨t182, t183, t184, t185⟩, A90, H⟩ := H
  replace H : ((box_Split.f k t182 t183 t184 t185 a1 a2).bind fun t186 => (if (t186.length : Int) < 2 then (some (([(⟨(⟨a0_0, a0_1, a0_2, a0_3⟩ : S37), (⟨a0_4, a0_5, a0_6⟩ : S32)⟩ : S55)] : List (S55)))) else (if 0 < (t186.length : Int) then ((layer_part.f k a0_0 a0_1 a0_2 a0_3 a0_4 a0_5 a0_6 ((rd_T37 t186 0).f0) ((rd_T37 t186 0).f1) ((rd_T37 t186 0).f2) ((rd_T37 t186 0).f3)).bind fun bt193 => (if 1 < (t186.length : Int) then ((layer_part.f k a0_0 a0_1 a0_2 a0_3 a0_4 a0_5 a0_6 ((rd_T37 t186 1).f0) ((rd_T37 t186 1).f1) ((rd_T37 t186 1).f2) ((rd_T37 t186 1).f3)).bind fun bt201 => (some (([(⟨(⟨bt193.1, bt193.2.1, bt193.2.2.1, bt193.2.2.2.1⟩ : S37), (⟨bt193.2.2.2.2.1, bt193.2.2.2.2.2.1, bt193.2.2.2.2.2.2⟩ : S32)⟩ : S55), (⟨(⟨bt201.1, bt201.2.1, bt201.2.2.1, bt201.2.2.2.1⟩ : S37), (⟨bt201.2.2.2.2.1, bt201.2.2.2.2.2.1, bt201.2.2.2.2.2.2⟩ : S32)⟩ : S55)] : List (S55))))) else (none))) else (none)))) = some r := H
  have A9 := Za A90
  clear A90
  replace H := Option.bind_eq_some_iff.mp H
  obtain ⟨t186, A100, H⟩ := H
  replace H : (if (t186.length : Int) < 2 then (some (([(⟨(⟨a0_0, a0_1, a0_2, a0_3⟩ : S37), (⟨a0_4, a0_5, a0_6⟩ : S32)⟩ : S55)] : List (S55)))) else (if 0 < (t186.length : Int) then ((layer_part.f k a0_0 a0_1 a0_2 a0_3 a0_4 a0_5 a0_6 ((rd_T37 t186 0).f0) ((rd_T37 t186 0).f1) ((rd_T37 t186 0).f2) ((rd_T37 t186 0).f3)).bind fun bt193 => (if 1 < (t186.length : Int) then ((layer_part.f k a0_0 a0_1 a0_2 a0_3 a0_4 a0_5 a0_6 ((rd_T37 t186 1).f0) ((rd_T37 t186 1).f1) ((rd_T37 t186 1).f2) ((rd_T37 t186 1).f3)).bind fun bt201 => (some (([(⟨(⟨bt193.1, bt193.2.1, bt193.2.2.1, bt193.2.2.2.1⟩ : S37), (⟨bt193.2.2.2.2.1, bt193.2.2.2.2.2.1, bt193.2.2.2.2.2.2⟩ : S32)⟩ : S55), (⟨(⟨bt201.1, bt201.2.1, bt201.2.2.1, bt201.2.2.2.1⟩ : S37), (⟨bt201.2.2.2.2.1, bt201.2.2.2.2.2.1, bt201.2.2.2.2.2.2⟩ : S32)⟩ : S55)] : List (S55))))) else (none))) else (none))) = some r := H
  have A10 := Za A100
  clear A100
  by_cases c11 : (t186.length : Int) < 2
  ·rw [if_pos c11] at H
   have c11b0 : decide ((t186.length : Int) < 2) = Zt := decide_eq_true c11
   have c11b1 : decide (t186.length < 2) = Zt := decide_eq_true (by omega)
   clear c11
   obtain ⟨y189, hy189⟩ : ∃ y_ : List (S55), y_ = (([(⟨(⟨a0_0, a0_1, a0_2, a0_3⟩ : S37), (⟨a0_4, a0_5, a0_6⟩ : S32)⟩ : S55)] : List (S55))) := ⟨_, rfl⟩
   replace H : (some y189) = some r := by first | (rw [hy189]; with_reducible exact H) | (have H2_ := (Option.bind_some _ _).symm.trans H; rw [hy189]; with_reducible exact H2_) | (have H2_ := (Option.bind_some _ _).symm.trans H; with_reducible exact H2_) | with_reducible exact H | (rw [hy189]; exact H) | exact H
   have Ny189 := Za hy189
   clear hy189
   obtain rfl := Option.some.inj H
   go_enter Try.func44, Try.ntmps44
   go_wp2_with (first | ((with_reducible refine gate_dst (N := 3) rfl ?_); refine box_event ?hg (N := 3) ?hd (cs := #[.int .i64 a0_0, .int .i64 a0_1, .int .i64 a0_2, .int .i64 a0_3, .int .i64 a0_4, .int .i64 a0_5, .int .i64 a0_6]) (t := 55) ?hr ?_; (case hd => rfl); (case hg => rfl); (case hr => first | (go_simp; done) | (go_simp; rfl)); intro gb180 hg w12 hbox hb; have n0_ := Za (Xi (hb_8 HB.out) hb); have n1_ := Za (hbox); have n2_ := Za ((by rw [hg]; exact (Xk (hb_8 HB.out)) : w.heap.size ≤ gb180)); have n3_ := Za ((by rw [hg]; exact (Xk (hb_8 HB.out)) : w.heap.size ≤ gb180)); clear HB; have HB := n0_; have BK180 := n1_; have GW180 := n2_; have GE180 := n3_; clear n0_ n1_ n2_ n3_; clear hb hbox hg; have hcz13_0 : w12.cell? ⟨gb180, 0, none⟩ = some (.int .i64 a0_0) := (Xd BK180.out 0).trans rfl; have hcz13_1 : w12.cell? ⟨gb180, 1, none⟩ = some (.int .i64 a0_1) := (Xd BK180.out 1).trans rfl; have hcz13_2 : w12.cell? ⟨gb180, 2, none⟩ = some (.int .i64 a0_2) := (Xd BK180.out 2).trans rfl; have hcz13_3 : w12.cell? ⟨gb180, 3, none⟩ = some (.int .i64 a0_3) := (Xd BK180.out 3).trans rfl; have hcz13_4 : w12.cell? ⟨gb180, 4, none⟩ = some (.int .i64 a0_4) := (Xd BK180.out 4).trans rfl; have hcz13_5 : w12.cell? ⟨gb180, 5, none⟩ = some (.int .i64 a0_5) := (Xd BK180.out 5).trans rfl; have hcz13_6 : w12.cell? ⟨gb180, 6, none⟩ = some (.int .i64 a0_6) := (Xd BK180.out 6).trans rfl; have hfz13_0 := Xe BK180.out 0; have hfz13_1 := Xe BK180.out 1; have hfz13_2 := Xe BK180.out 2; have hfz13_3 := Xe BK180.out 3; have hfz13_4 := Xe BK180.out 4; have hfz13_5 := Xe BK180.out 5; have hfz13_6 := Xe BK180.out 6) | ((with_reducible refine Xm (f := 86) rfl ?_); refine goesL_ (some 10) rfl rfl Try.func86 (by kernel_rfl) rfl #[.agg #[.int .i64 a0_0, .int .i64 a0_1, .int .i64 a0_2, .int .i64 a0_3]] rfl (by (try simp only [List.map_toArray, List.map_cons, List.map_nil]); first | done | rfl | (simp only [List.length_drop, List.length_take]; rfl)) ?_; (with_reducible refine (box_Empty.calls a0_0 a0_1 a0_2 a0_3 Zf _ A4.out).mono ?_); rintro e w14 ⟨rfl, hb⟩; refine ⟨_, rfl, ?_⟩; have n0_ := Za (Xl (g := gb180) (o := .cells #[.int .i64 a0_0, .int .i64 a0_1, .int .i64 a0_2, .int .i64 a0_3, .int .i64 a0_4, .int .i64 a0_5, .int .i64 a0_6] 55 (0, 0)) (bb_8 BK180.out) hb); have n1_ := Za (Xi (hb_8 HB.out) hb); clear BK180; clear HB; have BK180 := n0_; have HB := n1_; clear n0_ n1_; (try clear hb); (try clear hb2); (try clear hk); (try clear hi); have hcz15_0 : w14.cell? ⟨gb180, 0, none⟩ = some (.int .i64 a0_0) := (Xd BK180.out 0).trans rfl; have hcz15_1 : w14.cell? ⟨gb180, 1, none⟩ = some (.int .i64 a0_1) := (Xd BK180.out 1).trans rfl; have hcz15_2 : w14.cell? ⟨gb180, 2, none⟩ = some (.int .i64 a0_2) := (Xd BK180.out 2).trans rfl; have hcz15_3 : w14.cell? ⟨gb180, 3, none⟩ = some (.int .i64 a0_3) := (Xd BK180.out 3).trans rfl; have hcz15_4 : w14.cell? ⟨gb180, 4, none⟩ = some (.int .i64 a0_4) := (Xd BK180.out 4).trans rfl; have hcz15_5 : w14.cell? ⟨gb180, 5, none⟩ = some (.int .i64 a0_5) := (Xd BK180.out 5).trans rfl; have hcz15_6 : w14.cell? ⟨gb180, 6, none⟩ = some (.int .i64 a0_6) := (Xd BK180.out 6).trans rfl; have hfz15_0 := Xe BK180.out 0; have hfz15_1 := Xe BK180.out 1; have hfz15_2 := Xe BK180.out 2; have hfz15_3 := Xe BK180.out 3; have hfz15_4 := Xe BK180.out 4; have hfz15_5 := Xe BK180.out 5; have hfz15_6 := Xe BK180.out 6) | ((with_reducible refine Xm (f := 39) rfl ?_); refine goesL_ (some 12) rfl rfl Try.func39 (by kernel_rfl) rfl #[.agg #[.int .i64 a0_0, .int .i64 a0_1, .int .i64 a0_2, .int .i64 a0_3, .int .i64 a0_4, .int .i64 a0_5, .int .i64 a0_6]] rfl (by (try simp only [List.map_toArray, List.map_cons, List.map_nil]); first | done | rfl | (simp only [List.length_drop, List.length_take]; rfl)) ?_; (with_reducible refine (layer_Lies.calls k a0_0 a0_1 a0_2 a0_3 a0_4 a0_5 a0_6 t182 t183 t184 t185 _ A9.out).mono ?_); rintro e w16 ⟨rfl, hb⟩; refine ⟨_, rfl, ?_⟩; have n0_ := Za (Xl (g := gb180) (o := .cells #[.int .i64 a0_0, .int .i64 a0_1, .int .i64 a0_2, .int .i64 a0_3, .int .i64 a0_4, .int .i64 a0_5, .int .i64 a0_6] 55 (0, 0)) (bb_8 BK180.out) hb); have n1_ := Za (Xi (hb_8 HB.out) hb); clear BK180; clear HB; have BK180 := n0_; have HB := n1_; clear n0_ n1_; (try clear hb); (try clear hb2); (try clear hk); (try clear hi)) | ((with_reducible refine Xm (f := 87) rfl ?_); refine goesL_ (some 15) rfl rfl Try.func87 (by kernel_rfl) rfl #[.agg #[.int .i64 t182, .int .i64 t183, .int .i64 t184, .int .i64 t185], .bool a1, .int .i64 a2] rfl (by (try simp only [List.map_toArray, List.map_cons, List.map_nil]); first | done | rfl | (simp only [List.length_drop, List.length_take]; rfl)) ?_; (with_reducible refine (box_Split.calls k t182 t183 t184 t185 a1 a2 t186 _ A10.out).mono ?_); rintro e w17 ⟨v187, rfl, ho0, hb⟩; refine ⟨_, rfl, ?_⟩; have n0_ := Za (Kd.R_lower ho0 (Xk (hb_8 HB.out))); have n1_ := Za (Xl (g := gb180) (o := .cells #[.int .i64 a0_0, .int .i64 a0_1, .int .i64 a0_2, .int .i64 a0_3, .int .i64 a0_4, .int .i64 a0_5, .int .i64 a0_6] 55 (0, 0)) (bb_8 BK180.out) hb); have n2_ := Za (Xi (hb_8 HB.out) hb); clear BK180; clear HB; have HO188 := n0_; have BK180 := n1_; have HB := n2_; clear n0_ n1_ n2_; (try clear hb); (try clear hb2); (try clear hk); (try clear hi); (try clear ho0); obtain ⟨Ao18, co18, eo18⟩ := Kd.R_slice HO188.out; subst eo18; have hcz19_0 : w17.cell? ⟨gb180, 0, none⟩ = some (.int .i64 a0_0) := (Xd BK180.out 0).trans rfl; have hcz19_1 : w17.cell? ⟨gb180, 1, none⟩ = some (.int .i64 a0_1) := (Xd BK180.out 1).trans rfl; have hcz19_2 : w17.cell? ⟨gb180, 2, none⟩ = some (.int .i64 a0_2) := (Xd BK180.out 2).trans rfl; have hcz19_3 : w17.cell? ⟨gb180, 3, none⟩ = some (.int .i64 a0_3) := (Xd BK180.out 3).trans rfl; have hcz19_4 : w17.cell? ⟨gb180, 4, none⟩ = some (.int .i64 a0_4) := (Xd BK180.out 4).trans rfl; have hcz19_5 : w17.cell? ⟨gb180, 5, none⟩ = some (.int .i64 a0_5) := (Xd BK180.out 5).trans rfl; have hcz19_6 : w17.cell? ⟨gb180, 6, none⟩ = some (.int .i64 a0_6) := (Xd BK180.out 6).trans rfl; have hfz19_0 := Xe BK180.out 0; have hfz19_1 := Xe BK180.out 1; have hfz19_2 := Xe BK180.out 2; have hfz19_3 := Xe BK180.out 3; have hfz19_4 := Xe BK180.out 4; have hfz19_5 := Xe BK180.out 5; have hfz19_6 := Xe BK180.out 6) | ((with_reducible refine gate_dst (N := 20) rfl ?_); refine Kd.R_lit k55 _ 55 ?hg (N := 20) ?hd (xs := ([(⟨(⟨a0_0, a0_1, a0_2, a0_3⟩ : S37), (⟨a0_4, a0_5, a0_6⟩ : S32)⟩ : S55)] : List (S55))) (inner := [.int .i64 a0_0, .int .i64 a0_1, .int .i64 a0_2, .int .i64 a0_3, .int .i64 a0_4, .int .i64 a0_5, .int .i64 a0_6]) (ok := fun _ => True) (okp := fun _ => True) ?hr ?hp (fun _ hk => hk) trivial (Below.refl _ _) (Nat.le_refl _) (by simp) ?_; (case hd => rfl); (case hg => rfl); (case hr => first | (go_simp; done) | (go_simp; rfl)); (case hp => exact (Reps.c7 (show Kd.M k55 _ _ _ (⟨(⟨a0_0, a0_1, a0_2, a0_3⟩ : S37), (⟨a0_4, a0_5, a0_6⟩ : S32)⟩ : S55) [.int .i64 a0_0, .int .i64 a0_1, .int .i64 a0_2, .int .i64 a0_3, .int .i64 a0_4, .int .i64 a0_5, .int .i64 a0_6] from (k55_mkM _ _ _ (⟨(⟨a0_0, a0_1, a0_2, a0_3⟩ : S37), (⟨a0_4, a0_5, a0_6⟩ : S32)⟩ : S55) )) (Reps.none _ _))); intro v190 w20 ho21 hb hg_ hnew_; clear hg_ hnew_; (first | rw [← Ny189.out] at ho21 | (simp only [Int.reduceToNat] at ho21; rw [← Ny189.out] at ho21)); have n0_ := Za (Kd.R_below (by (with_reducible repeat (first | apply Kd.R_alloc | apply Kd.R_drewN | apply Kd.R_drew)); exact HO188.out) hb); have n1_ := Za (Kd.R_lower (Kd.R_newB ho21 (g := gb180) (o := .cells #[.int .i64 a0_0, .int .i64 a0_1, .int .i64 a0_2, .int .i64 a0_3, .int .i64 a0_4, .int .i64 a0_5, .int .i64 a0_6] 55 (0, 0)) (bb_8 BK180.out)) (Xk (hb_8 HB.out))); have n2_ := Za (Xl (g := gb180) (o := .cells #[.int .i64 a0_0, .int .i64 a0_1, .int .i64 a0_2, .int .i64 a0_3, .int .i64 a0_4, .int .i64 a0_5, .int .i64 a0_6] 55 (0, 0)) (bb_8 BK180.out) hb); have n3_ := Za (Xi (hb_8 HB.out) hb); clear HO188; clear BK180; clear HB; have HO188 := n0_; have HO191 := n1_; have BK180 := n2_; have HB := n3_; clear n0_ n1_ n2_ n3_; clear hb ho21))
   go_ret
   exact ⟨_, by first | rfl | (simp [errW_none, errW_some] <;> rfl) | (simp [*, errW_none, errW_some] <;> rfl), by (with_reducible repeat (first | apply Kd.R_alloc | apply Kd.R_drewN | apply Kd.R_drew)); exact Kd.R_mono HO191.out (fun _ hk => trivial), by repeat (first | (with_reducible first | exact HB.out | apply below_alloc | apply pw_below_drewN | apply below_drew1 | refine below_set ?_ GE180.out) | exact HB.out)⟩
  ·rw [if_neg c11] at H
   have c11b0 : decide ((t186.length : Int) < 2) = Zf := decide_eq_false c11
   have c11b1 : decide (t186.length < 2) = Zf := decide_eq_false (by omega)
   clear c11
   by_cases c22 : 0 < (t186.length : Int)
   ·rw [if_pos c22] at H
    have c22b0 : decide (0 < (t186.length : Int)) = Zt := decide_eq_true c22
    have c22b1 : decide (0 < t186.length) = Zt := decide_eq_true (by omega)
    clear c22
    replace H := Option.bind_eq_some_iff.mp H
    obtain ⟨⟨t193, t194, t195, t196, t197, t198, t199⟩, A230, H⟩ := H
    replace H : (if 1 < (t186.length : Int) then ((layer_part.f k a0_0 a0_1 a0_2 a0_3 a0_4 a0_5 a0_6 ((rd_T37 t186 1).f0) ((rd_T37 t186 1).f1) ((rd_T37 t186 1).f2) ((rd_T37 t186 1).f3)).bind fun bt201 => (some (([(⟨(⟨t193, t194, t195, t196⟩ : S37), (⟨t197, t198, t199⟩ : S32)⟩ : S55), (⟨(⟨bt201.1, bt201.2.1, bt201.2.2.1, bt201.2.2.2.1⟩ : S37), (⟨bt201.2.2.2.2.1, bt201.2.2.2.2.2.1, bt201.2.2.2.2.2.2⟩ : S32)⟩ : S55)] : List (S55))))) else (none)) = some r := H
    have A23 := Za A230
    clear A230
    by_cases c24 : 1 < (t186.length : Int)
    ·rw [if_pos c24] at H
     have c24b0 : decide (1 < (t186.length : Int)) = Zt := decide_eq_true c24
     have c24b1 : decide (1 < t186.length) = Zt := decide_eq_true (by omega)
     clear c24
     replace H := Option.bind_eq_some_iff.mp H
     obtain ⟨⟨t201, t202, t203, t204, t205, t206, t207⟩, A250, H⟩ := H
     replace H : (some (([(⟨(⟨t193, t194, t195, t196⟩ : S37), (⟨t197, t198, t199⟩ : S32)⟩ : S55), (⟨(⟨t201, t202, t203, t204⟩ : S37), (⟨t205, t206, t207⟩ : S32)⟩ : S55)] : List (S55)))) = some r := H
     have A25 := Za A250
     clear A250
     obtain ⟨y208, hy208⟩ : ∃ y_ : List (S55), y_ = (([(⟨(⟨t193, t194, t195, t196⟩ : S37), (⟨t197, t198, t199⟩ : S32)⟩ : S55), (⟨(⟨t201, t202, t203, t204⟩ : S37), (⟨t205, t206, t207⟩ : S32)⟩ : S55)] : List (S55))) := ⟨_, rfl⟩
     replace H : (some y208) = some r := by first | (rw [hy208]; with_reducible exact H) | (have H2_ := (Option.bind_some _ _).symm.trans H; rw [hy208]; with_reducible exact H2_) | (have H2_ := (Option.bind_some _ _).symm.trans H; with_reducible exact H2_) | with_reducible exact H | (rw [hy208]; exact H) | exact H
     have Ny208 := Za hy208
     clear hy208
     obtain rfl := Option.some.inj H
     go_enter Try.func44, Try.ntmps44
     try go_wp2_with (first | ((with_reducible refine gate_dst (N := 3) rfl ?_); refine box_event ?hg (N := 3) ?hd (cs := #[.int .i64 a0_0, .int .i64 a0_1, .int .i64 a0_2, .int .i64 a0_3, .int .i64 a0_4, .int .i64 a0_5, .int .i64 a0_6]) (t := 55) ?hr ?_; (case hd => rfl); (case hg => rfl); (case hr => first | (go_simp; done) | (go_simp; rfl)); intro gb180 hg w26 hbox hb; have n0_ := Za (Xi (hb_8 HB.out) hb); have n1_ := Za (hbox); have n2_ := Za ((by rw [hg]; exact (Xk (hb_8 HB.out)) : w.heap.size ≤ gb180)); have n3_ := Za ((by rw [hg]; exact (Xk (hb_8 HB.out)) : w.heap.size ≤ gb180)); clear HB; have HB := n0_; have BK180 := n1_; have GW180 := n2_; have GE180 := n3_; clear n0_ n1_ n2_ n3_; clear hb hbox hg; have hcz27_0 : w26.cell? ⟨gb180, 0, none⟩ = some (.int .i64 a0_0) := (Xd BK180.out 0).trans rfl; have hcz27_1 : w26.cell? ⟨gb180, 1, none⟩ = some (.int .i64 a0_1) := (Xd BK180.out 1).trans rfl; have hcz27_2 : w26.cell? ⟨gb180, 2, none⟩ = some (.int .i64 a0_2) := (Xd BK180.out 2).trans rfl; have hcz27_3 : w26.cell? ⟨gb180, 3, none⟩ = some (.int .i64 a0_3) := (Xd BK180.out 3).trans rfl; have hcz27_4 : w26.cell? ⟨gb180, 4, none⟩ = some (.int .i64 a0_4) := (Xd BK180.out 4).trans rfl; have hcz27_5 : w26.cell? ⟨gb180, 5, none⟩ = some (.int .i64 a0_5) := (Xd BK180.out 5).trans rfl; have hcz27_6 : w26.cell? ⟨gb180, 6, none⟩ = some (.int .i64 a0_6) := (Xd BK180.out 6).trans rfl; have hfz27_0 := Xe BK180.out 0; have hfz27_1 := Xe BK180.out 1; have hfz27_2 := Xe BK180.out 2; have hfz27_3 := Xe BK180.out 3; have hfz27_4 := Xe BK180.out 4; have hfz27_5 := Xe BK180.out 5; have hfz27_6 := Xe BK180.out 6) | ((with_reducible refine Xm (f := 86) rfl ?_); refine goesL_ (some 10) rfl rfl Try.func86 (by kernel_rfl) rfl #[.agg #[.int .i64 a0_0, .int .i64 a0_1, .int .i64 a0_2, .int .i64 a0_3]] rfl (by (try simp only [List.map_toArray, List.map_cons, List.map_nil]); first | done | rfl | (simp only [List.length_drop, List.length_take]; rfl)) ?_; (with_reducible refine (box_Empty.calls a0_0 a0_1 a0_2 a0_3 Zf _ A4.out).mono ?_); rintro e w28 ⟨rfl, hb⟩; refine ⟨_, rfl, ?_⟩; have n0_ := Za (Xl (g := gb180) (o := .cells #[.int .i64 a0_0, .int .i64 a0_1, .int .i64 a0_2, .int .i64 a0_3, .int .i64 a0_4, .int .i64 a0_5, .int .i64 a0_6] 55 (0, 0)) (bb_8 BK180.out) hb); have n1_ := Za (Xi (hb_8 HB.out) hb); clear BK180; clear HB; have BK180 := n0_; have HB := n1_; clear n0_ n1_; (try clear hb); (try clear hb2); (try clear hk); (try clear hi); have hcz29_0 : w28.cell? ⟨gb180, 0, none⟩ = some (.int .i64 a0_0) := (Xd BK180.out 0).trans rfl; have hcz29_1 : w28.cell? ⟨gb180, 1, none⟩ = some (.int .i64 a0_1) := (Xd BK180.out 1).trans rfl; have hcz29_2 : w28.cell? ⟨gb180, 2, none⟩ = some (.int .i64 a0_2) := (Xd BK180.out 2).trans rfl; have hcz29_3 : w28.cell? ⟨gb180, 3, none⟩ = some (.int .i64 a0_3) := (Xd BK180.out 3).trans rfl; have hcz29_4 : w28.cell? ⟨gb180, 4, none⟩ = some (.int .i64 a0_4) := (Xd BK180.out 4).trans rfl; have hcz29_5 : w28.cell? ⟨gb180, 5, none⟩ = some (.int .i64 a0_5) := (Xd BK180.out 5).trans rfl; have hcz29_6 : w28.cell? ⟨gb180, 6, none⟩ = some (.int .i64 a0_6) := (Xd BK180.out 6).trans rfl; have hfz29_0 := Xe BK180.out 0; have hfz29_1 := Xe BK180.out 1; have hfz29_2 := Xe BK180.out 2; have hfz29_3 := Xe BK180.out 3; have hfz29_4 := Xe BK180.out 4; have hfz29_5 := Xe BK180.out 5; have hfz29_6 := Xe BK180.out 6) | ((with_reducible refine Xm (f := 39) rfl ?_); refine goesL_ (some 12) rfl rfl Try.func39 (by kernel_rfl) rfl #[.agg #[.int .i64 a0_0, .int .i64 a0_1, .int .i64 a0_2, .int .i64 a0_3, .int .i64 a0_4, .int .i64 a0_5, .int .i64 a0_6]] rfl (by (try simp only [List.map_toArray, List.map_cons, List.map_nil]); first | done | rfl | (simp only [List.length_drop, List.length_take]; rfl)) ?_; (with_reducible refine (layer_Lies.calls k a0_0 a0_1 a0_2 a0_3 a0_4 a0_5 a0_6 t182 t183 t184 t185 _ A9.out).mono ?_); rintro e w30 ⟨rfl, hb⟩; refine ⟨_, rfl, ?_⟩; have n0_ := Za (Xl (g := gb180) (o := .cells #[.int .i64 a0_0, .int .i64 a0_1, .int .i64 a0_2, .int .i64 a0_3, .int .i64 a0_4, .int .i64 a0_5, .int .i64 a0_6] 55 (0, 0)) (bb_8 BK180.out) hb); have n1_ := Za (Xi (hb_8 HB.out) hb); clear BK180; clear HB; have BK180 := n0_; have HB := n1_; clear n0_ n1_; (try clear hb); (try clear hb2); (try clear hk); (try clear hi)) | ((with_reducible refine Xm (f := 87) rfl ?_); refine goesL_ (some 15) rfl rfl Try.func87 (by kernel_rfl) rfl #[.agg #[.int .i64 t182, .int .i64 t183, .int .i64 t184, .int .i64 t185], .bool a1, .int .i64 a2] rfl (by (try simp only [List.map_toArray, List.map_cons, List.map_nil]); first | done | rfl | (simp only [List.length_drop, List.length_take]; rfl)) ?_; (with_reducible refine (box_Split.calls k t182 t183 t184 t185 a1 a2 t186 _ A10.out).mono ?_); rintro e w31 ⟨v187, rfl, ho0, hb⟩; refine ⟨_, rfl, ?_⟩; have n0_ := Za (Kd.R_lower ho0 (Xk (hb_8 HB.out))); have n1_ := Za (Xl (g := gb180) (o := .cells #[.int .i64 a0_0, .int .i64 a0_1, .int .i64 a0_2, .int .i64 a0_3, .int .i64 a0_4, .int .i64 a0_5, .int .i64 a0_6] 55 (0, 0)) (bb_8 BK180.out) hb); have n2_ := Za (Xi (hb_8 HB.out) hb); clear BK180; clear HB; have HO188 := n0_; have BK180 := n1_; have HB := n2_; clear n0_ n1_ n2_; (try clear hb); (try clear hb2); (try clear hk); (try clear hi); (try clear ho0); obtain ⟨Ao32, co32, eo32⟩ := Kd.R_slice HO188.out; subst eo32))
     have n0_ := Za (Kd.R_drew HO188.out)
     have n1_ := Za (Xh BK180.out)
     have n2_ := Za (below_drew1 HB.out)
     clear HO188
     clear BK180
     clear HB
     have HO188 := n0_
     have BK180 := n1_
     have HB := n2_
     clear n0_ n1_ n2_
     have p192 : 0 ≤ (0 : Int) := (by omega)
     have q192 : 0 < (t186.length : Int) := of_decide_eq_true (by first | (with_reducible assumption) | assumption)
     obtain ⟨ad192, e192, hx192_0, hx192_1, hx192_2, hx192_3⟩ := at_T37 (Kd.R_reads' HO188.out).2.2 0 p192 q192
     cases e192
     have qi192 : (0 < t186.length) = True := eq_true (by omega)
     (try rw [show ((0 : Int)).toNat = 0 from rfl] at hx192_0)
     (try rw [show 0 * 4 = 0 from rfl] at hx192_0)
     (try rw [Addr.add_zero'] at hx192_0)
     (try rw [show ((0 : Int)).toNat = 0 from rfl] at hx192_1)
     (try rw [show 0 * 4 = 0 from rfl] at hx192_1)
     (try rw [Addr.add_zero'] at hx192_1)
     (try rw [show ((0 : Int)).toNat = 0 from rfl] at hx192_2)
     (try rw [show 0 * 4 = 0 from rfl] at hx192_2)
     (try rw [Addr.add_zero'] at hx192_2)
     (try rw [show ((0 : Int)).toNat = 0 from rfl] at hx192_3)
     (try rw [show 0 * 4 = 0 from rfl] at hx192_3)
     (try rw [Addr.add_zero'] at hx192_3)
     replace p192 := eq_true p192
     replace q192 := eq_true q192
     have p200 : 0 ≤ (1 : Int) := (by omega)
     have q200 : 1 < (t186.length : Int) := of_decide_eq_true (by first | (with_reducible assumption) | assumption)
     obtain ⟨ad200, e200, hx200_0, hx200_1, hx200_2, hx200_3⟩ := at_T37 (Kd.R_reads' HO188.out).2.2 1 p200 q200
     obtain rfl : ad192 = ad200 := (by injection e200)
     (try simp only [show (1 : Int).toNat = 1 from rfl, Nat.reduceMul, Nat.reduceEqDiff, Go.Addr.add, ↓reduceIte] at hx200_0)
     (try simp only [show (1 : Int).toNat = 1 from rfl, Nat.reduceMul, Nat.reduceEqDiff, Go.Addr.add, ↓reduceIte] at hx200_1)
     (try simp only [show (1 : Int).toNat = 1 from rfl, Nat.reduceMul, Nat.reduceEqDiff, Go.Addr.add, ↓reduceIte] at hx200_2)
     (try simp only [show (1 : Int).toNat = 1 from rfl, Nat.reduceMul, Nat.reduceEqDiff, Go.Addr.add, ↓reduceIte] at hx200_3)
     have qi200 : (1 < t186.length) = True := eq_true (by omega)
     (try rw [show ((1 : Int)).toNat = 1 from rfl] at hx200_0)
     (try rw [show 1 * 4 = 4 from rfl] at hx200_0)
     (try rw [show ((1 : Int)).toNat = 1 from rfl] at hx200_1)
     (try rw [show 1 * 4 = 4 from rfl] at hx200_1)
     (try rw [show ((1 : Int)).toNat = 1 from rfl] at hx200_2)
     (try rw [show 1 * 4 = 4 from rfl] at hx200_2)
     (try rw [show ((1 : Int)).toNat = 1 from rfl] at hx200_3)
     (try rw [show 1 * 4 = 4 from rfl] at hx200_3)
     replace p200 := eq_true p200
     replace q200 := eq_true q200
     refine start_ (n := 12) (S := fun w' => w'.cell? ⟨gb180, 0, none⟩ = some (.int .i64 a0_0) ∧ w'.cell? ⟨gb180, 1, none⟩ = some (.int .i64 a0_1) ∧ w'.cell? ⟨gb180, 2, none⟩ = some (.int .i64 a0_2) ∧ w'.cell? ⟨gb180, 3, none⟩ = some (.int .i64 a0_3) ∧ w'.cell? ⟨gb180, 4, none⟩ = some (.int .i64 a0_4) ∧ w'.cell? ⟨gb180, 5, none⟩ = some (.int .i64 a0_5) ∧ w'.cell? ⟨gb180, 6, none⟩ = some (.int .i64 a0_6) ∧ w'.cell? ad192 = some (.int .i64 ((rd_T37 t186 0).f0)) ∧ w'.cell? ⟨ad192.block, ad192.off + 1, none⟩ = some (.int .i64 ((rd_T37 t186 0).f1)) ∧ w'.cell? ⟨ad192.block, ad192.off + 2, none⟩ = some (.int .i64 ((rd_T37 t186 0).f2)) ∧ w'.cell? ⟨ad192.block, ad192.off + 3, none⟩ = some (.int .i64 ((rd_T37 t186 0).f3)) ∧ w'.cell? ⟨ad192.block, ad192.off + 4, none⟩ = some (.int .i64 ((rd_T37 t186 1).f0)) ∧ w'.cell? ⟨ad192.block, ad192.off + 4 + 1, none⟩ = some (.int .i64 ((rd_T37 t186 1).f1)) ∧ w'.cell? ⟨ad192.block, ad192.off + 4 + 2, none⟩ = some (.int .i64 ((rd_T37 t186 1).f2)) ∧ w'.cell? ⟨ad192.block, ad192.off + 4 + 3, none⟩ = some (.int .i64 ((rd_T37 t186 1).f3))) (ds := []) #[Zf,Zf,Zf,Zf,Zf,Zf,Zf,Zf,Zf,Zf,Zf,Zf] (by kernel_rfl) rfl rfl ⟨(Xd BK180.out 0).trans rfl, (Xd BK180.out 1).trans rfl, (Xd BK180.out 2).trans rfl, (Xd BK180.out 3).trans rfl, (Xd BK180.out 4).trans rfl, (Xd BK180.out 5).trans rfl, (Xd BK180.out 6).trans rfl, hx192_0, hx192_1, hx192_2, hx192_3, hx200_0, hx200_1, hx200_2, hx200_3⟩ (fun hHeld => ?_); refine with_tabW layer_Cut.tab6 layer_Cut.bits6 (fun HT_ HW_ => ?_)
     generalize w31.drew = w33 at HO188 BK180 HB hx192_0 hx192_1 hx192_2 hx192_3 hx200_0 hx200_1 hx200_2 hx200_3 hHeld ⊢
     refine pure_ (i := 1) (N := some 22) (v := ?_) (a' := ?_) #[Zf,Zt,Zf,Zf,Zf,Zf,Zf,Zf,Zf,Zf,Zf,Zf] rfl rfl (any_of HT_.out (by kernel_rfl)) (fun _ _ _ h => h) (Or.inl ⟨by rfl, ?_⟩) ?_ ?_
     rotate_left
     ·intro w'
      go_simp
      with_reducible rfl
     rotate_left
     ·simp only [Act.put, Xa, Xb, Xc, i64_w, i32_w]
      rfl
     refine pure_ (i := 2) (N := some 23) (v := ?_) (a' := ?_) #[Zf,Zt,Zt,Zf,Zf,Zf,Zf,Zf,Zf,Zf,Zf,Zf] rfl rfl (any_of HT_.out (by kernel_rfl)) (fun _ _ _ h => h) (Or.inl ⟨by rfl, ?_⟩) ?_ ?_
     rotate_left
     ·intro w'
      go_simp
      with_reducible rfl
     rotate_left
     ·simp only [Act.put, Xa, Xb, Xc, i64_w, i32_w]
      rfl
     refine pure_ (i := 6) (N := some 27) (v := ?_) (a' := ?_) #[Zf,Zt,Zt,Zf,Zf,Zf,Zt,Zf,Zf,Zf,Zf,Zf] rfl rfl (any_of HT_.out (by kernel_rfl)) (fun _ _ _ h => h) (Or.inl ⟨by rfl, ?_⟩) ?_ ?_
     rotate_left
     ·intro w'
      go_simp
      with_reducible rfl
     rotate_left
     ·simp only [Act.put, Xa, Xb, Xc, i64_w, i32_w]
      rfl
     refine pure_ (i := 7) (N := some 28) (v := ?_) (a' := ?_) #[Zf,Zt,Zt,Zf,Zf,Zf,Zt,Zt,Zf,Zf,Zf,Zf] rfl rfl (any_of HT_.out (by kernel_rfl)) (fun _ _ _ h => h) (Or.inl ⟨by rfl, ?_⟩) ?_ ?_
     rotate_left
     ·intro w'
      go_simp
      with_reducible rfl
     rotate_left
     ·simp only [Act.put, Xa, Xb, Xc, i64_w, i32_w]
      rfl
     refine take_ (i := 0) (N := some 21) (v := ?_) (a' := ?_) #[Zt,Zt,Zt,Zf,Zf,Zf,Zt,Zt,Zf,Zf,Zf,Zf] rfl rfl (take_ofW HT_.out HW_.out (by kernel_rfl)) (fun _ _ _ h => h) (Or.inl ⟨by rfl, ?_⟩) hHeld ?_ ?_
     rotate_left
     ·rintro w' ⟨s0, s1, s2, s3, s4, s5, s6, s7, s8, s9, s10, s11, s12, s13, s14⟩
      go_simp
      with_reducible rfl
     rotate_left
     ·simp only [Act.put, Xa, Xb, Xc, i64_w, i32_w]
      rfl
     refine take_ (i := 3) (N := some 24) (v := ?_) (a' := ?_) #[Zt,Zt,Zt,Zt,Zf,Zf,Zt,Zt,Zf,Zf,Zf,Zf] rfl rfl (take_ofW HT_.out HW_.out (by kernel_rfl)) (fun _ _ _ h => h) (Or.inl ⟨by rfl, ?_⟩) hHeld ?_ ?_
     rotate_left
     ·rintro w' ⟨s0, s1, s2, s3, s4, s5, s6, s7, s8, s9, s10, s11, s12, s13, s14⟩
      go_simp
      with_reducible rfl
     rotate_left
     ·simp only [Act.put, Xa, Xb, Xc, i64_w, i32_w]
      rfl
     refine take_ (i := 5) (N := some 26) (v := ?_) (a' := ?_) #[Zt,Zt,Zt,Zt,Zf,Zt,Zt,Zt,Zf,Zf,Zf,Zf] rfl rfl (take_ofW HT_.out HW_.out (by kernel_rfl)) (fun _ _ _ h => h) (Or.inl ⟨by rfl, ?_⟩) hHeld ?_ ?_
     rotate_left
     ·rintro w' ⟨s0, s1, s2, s3, s4, s5, s6, s7, s8, s9, s10, s11, s12, s13, s14⟩
      go_simp
      with_reducible rfl
     rotate_left
     ·simp only [Act.put, Xa, Xb, Xc, i64_w, i32_w]
      rfl
     refine take_ (i := 8) (N := some 29) (v := ?_) (a' := ?_) #[Zt,Zt,Zt,Zt,Zf,Zt,Zt,Zt,Zt,Zf,Zf,Zf] rfl rfl (take_ofW HT_.out HW_.out (by kernel_rfl)) (fun _ _ _ h => h) (Or.inl ⟨by rfl, ?_⟩) hHeld ?_ ?_
     rotate_left
     ·rintro w' ⟨s0, s1, s2, s3, s4, s5, s6, s7, s8, s9, s10, s11, s12, s13, s14⟩
      go_simp
      with_reducible rfl
     rotate_left
     ·simp only [Act.put, Xa, Xb, Xc, i64_w, i32_w]
      rfl
     refine one_ (i := 4) (N := some 25) #[Zt,Zt,Zt,Zt,Zt,Zt,Zt,Zt,Zt,Zf,Zf,Zf] rfl rfl (one_of HT_.out (by kernel_rfl)) (by decide) (fun K hK => ?_)
     refine goes_ Try.func88 (by kernel_rfl) rfl #[.agg #[.int .i64 a0_0, .int .i64 a0_1, .int .i64 a0_2, .int .i64 a0_3, .int .i64 a0_4, .int .i64 a0_5, .int .i64 a0_6], .agg #[.int .i64 ((rd_T37 t186 0).f0), .int .i64 ((rd_T37 t186 0).f1), .int .i64 ((rd_T37 t186 0).f2), .int .i64 ((rd_T37 t186 0).f3)]] (by rfl) rfl rfl (by (try simp only [List.map_toArray, List.map_cons, List.map_nil]); first | done | rfl | (simp only [List.length_drop, List.length_take]; rfl)) ?_
     with_reducible refine (layer_part.calls k a0_0 a0_1 a0_2 a0_3 a0_4 a0_5 a0_6 ((rd_T37 t186 0).f0) ((rd_T37 t186 0).f1) ((rd_T37 t186 0).f2) ((rd_T37 t186 0).f3) t193 t194 t195 t196 t197 t198 t199 _ A23.out).mono ?_
     rintro e w34 ⟨rfl, hb⟩
     have HS7_ := (hb.cell (World.block_lt_of_cell? _ _ (hHeld.2.2.2.2.2.2.2.1))).trans (hHeld.2.2.2.2.2.2.2.1)
     have HS8_ := (hb.cell (World.block_lt_of_cell? _ _ (hHeld.2.2.2.2.2.2.2.2.1))).trans (hHeld.2.2.2.2.2.2.2.2.1)
     have HS9_ := (hb.cell (World.block_lt_of_cell? _ _ (hHeld.2.2.2.2.2.2.2.2.2.1))).trans (hHeld.2.2.2.2.2.2.2.2.2.1)
     have HS10_ := (hb.cell (World.block_lt_of_cell? _ _ (hHeld.2.2.2.2.2.2.2.2.2.2.1))).trans (hHeld.2.2.2.2.2.2.2.2.2.2.1)
     have HS11_ := (hb.cell (World.block_lt_of_cell? _ _ (hHeld.2.2.2.2.2.2.2.2.2.2.2.1))).trans (hHeld.2.2.2.2.2.2.2.2.2.2.2.1)
     have HS12_ := (hb.cell (World.block_lt_of_cell? _ _ (hHeld.2.2.2.2.2.2.2.2.2.2.2.2.1))).trans (hHeld.2.2.2.2.2.2.2.2.2.2.2.2.1)
     have HS13_ := (hb.cell (World.block_lt_of_cell? _ _ (hHeld.2.2.2.2.2.2.2.2.2.2.2.2.2.1))).trans (hHeld.2.2.2.2.2.2.2.2.2.2.2.2.2.1)
     have HS14_ := (hb.cell (World.block_lt_of_cell? _ _ (hHeld.2.2.2.2.2.2.2.2.2.2.2.2.2.2))).trans (hHeld.2.2.2.2.2.2.2.2.2.2.2.2.2.2)
     refine ⟨_, rfl, ?_⟩
     have n0_ := Za (Kd.R_below (by (with_reducible repeat (first | apply Kd.R_alloc | apply Kd.R_drewN | apply Kd.R_drew)); exact HO188.out) hb)
     have n1_ := Za (Xl (g := gb180) (o := .cells #[.int .i64 a0_0, .int .i64 a0_1, .int .i64 a0_2, .int .i64 a0_3, .int .i64 a0_4, .int .i64 a0_5, .int .i64 a0_6] 55 (0, 0)) (bb_8 BK180.out) hb)
     have n2_ := Za (Xi (hb_8 HB.out) hb)
     clear HO188
     clear BK180
     clear HB
     have HO188 := n0_
     have BK180 := n1_
     have HB := n2_
     clear n0_ n1_ n2_
     (try clear hb)
     (try clear hb2)
     (try clear hk)
     (try clear hi)
     refine hK.out _ _ ⟨(Xd BK180.out 0).trans rfl, (Xd BK180.out 1).trans rfl, (Xd BK180.out 2).trans rfl, (Xd BK180.out 3).trans rfl, (Xd BK180.out 4).trans rfl, (Xd BK180.out 5).trans rfl, (Xd BK180.out 6).trans rfl, HS7_, HS8_, HS9_, HS10_, HS11_, HS12_, HS13_, HS14_⟩ (fun hHeld => ?_)
     clear hK K
     refine norm_ (a' := ?_) ?_ ?_
     rotate_left
     ·show Act.put _ (some 25) _ = _
      simp only [Act.put, Xa, Xb, Xc, i64_w, i32_w]
      rfl
     refine one_ (i := 9) (N := some 30) #[Zt,Zt,Zt,Zt,Zt,Zt,Zt,Zt,Zt,Zt,Zf,Zf] rfl rfl (one_of HT_.out (by kernel_rfl)) (by decide) (fun K hK => ?_)
     refine goes_ Try.func88 (by kernel_rfl) rfl #[.agg #[.int .i64 a0_0, .int .i64 a0_1, .int .i64 a0_2, .int .i64 a0_3, .int .i64 a0_4, .int .i64 a0_5, .int .i64 a0_6], .agg #[.int .i64 ((rd_T37 t186 1).f0), .int .i64 ((rd_T37 t186 1).f1), .int .i64 ((rd_T37 t186 1).f2), .int .i64 ((rd_T37 t186 1).f3)]] (by rfl) rfl rfl (by (try simp only [List.map_toArray, List.map_cons, List.map_nil]); first | done | rfl | (simp only [List.length_drop, List.length_take]; rfl)) ?_
     with_reducible refine (layer_part.calls k a0_0 a0_1 a0_2 a0_3 a0_4 a0_5 a0_6 ((rd_T37 t186 1).f0) ((rd_T37 t186 1).f1) ((rd_T37 t186 1).f2) ((rd_T37 t186 1).f3) t201 t202 t203 t204 t205 t206 t207 _ A25.out).mono ?_
     rintro e w35 ⟨rfl, hb⟩
     have HS7_ := (hb.cell (World.block_lt_of_cell? _ _ (hHeld.2.2.2.2.2.2.2.1))).trans (hHeld.2.2.2.2.2.2.2.1)
     have HS8_ := (hb.cell (World.block_lt_of_cell? _ _ (hHeld.2.2.2.2.2.2.2.2.1))).trans (hHeld.2.2.2.2.2.2.2.2.1)
     have HS9_ := (hb.cell (World.block_lt_of_cell? _ _ (hHeld.2.2.2.2.2.2.2.2.2.1))).trans (hHeld.2.2.2.2.2.2.2.2.2.1)
     have HS10_ := (hb.cell (World.block_lt_of_cell? _ _ (hHeld.2.2.2.2.2.2.2.2.2.2.1))).trans (hHeld.2.2.2.2.2.2.2.2.2.2.1)
     have HS11_ := (hb.cell (World.block_lt_of_cell? _ _ (hHeld.2.2.2.2.2.2.2.2.2.2.2.1))).trans (hHeld.2.2.2.2.2.2.2.2.2.2.2.1)
     have HS12_ := (hb.cell (World.block_lt_of_cell? _ _ (hHeld.2.2.2.2.2.2.2.2.2.2.2.2.1))).trans (hHeld.2.2.2.2.2.2.2.2.2.2.2.2.1)
     have HS13_ := (hb.cell (World.block_lt_of_cell? _ _ (hHeld.2.2.2.2.2.2.2.2.2.2.2.2.2.1))).trans (hHeld.2.2.2.2.2.2.2.2.2.2.2.2.2.1)
     have HS14_ := (hb.cell (World.block_lt_of_cell? _ _ (hHeld.2.2.2.2.2.2.2.2.2.2.2.2.2.2))).trans (hHeld.2.2.2.2.2.2.2.2.2.2.2.2.2.2)
     refine ⟨_, rfl, ?_⟩
     have n0_ := Za (Kd.R_below (by (with_reducible repeat (first | apply Kd.R_alloc | apply Kd.R_drewN | apply Kd.R_drew)); exact HO188.out) hb)
     have n1_ := Za (Xl (g := gb180) (o := .cells #[.int .i64 a0_0, .int .i64 a0_1, .int .i64 a0_2, .int .i64 a0_3, .int .i64 a0_4, .int .i64 a0_5, .int .i64 a0_6] 55 (0, 0)) (bb_8 BK180.out) hb)
     have n2_ := Za (Xi (hb_8 HB.out) hb)
     clear HO188
     clear BK180
     clear HB
     have HO188 := n0_
     have BK180 := n1_
     have HB := n2_
     clear n0_ n1_ n2_
     (try clear hb)
     (try clear hb2)
     (try clear hk)
     (try clear hi)
     refine hK.out _ _ ⟨(Xd BK180.out 0).trans rfl, (Xd BK180.out 1).trans rfl, (Xd BK180.out 2).trans rfl, (Xd BK180.out 3).trans rfl, (Xd BK180.out 4).trans rfl, (Xd BK180.out 5).trans rfl, (Xd BK180.out 6).trans rfl, HS7_, HS8_, HS9_, HS10_, HS11_, HS12_, HS13_, HS14_⟩ (fun hHeld => ?_)
     clear hK K
     refine norm_ (a' := ?_) ?_ ?_
     rotate_left
     ·show Act.put _ (some 30) _ = _
      simp only [Act.put, Xa, Xb, Xc, i64_w, i32_w]
      rfl
     refine one_ (i := 10) (N := some 31) #[Zt,Zt,Zt,Zt,Zt,Zt,Zt,Zt,Zt,Zt,Zt,Zf] rfl rfl (one_of HT_.out (by kernel_rfl)) (by decide) (fun K hK => ?_)
     refine Kd.R_lit_step k55 _ 55 ?hg (N := 31) ?hd (xs := ([(⟨(⟨t193, t194, t195, t196⟩ : S37), (⟨t197, t198, t199⟩ : S32)⟩ : S55), (⟨(⟨t201, t202, t203, t204⟩ : S37), (⟨t205, t206, t207⟩ : S32)⟩ : S55)] : List (S55))) (inner := [.int .i64 t193, .int .i64 t194, .int .i64 t195, .int .i64 t196, .int .i64 t197, .int .i64 t198, .int .i64 t199, .int .i64 t201, .int .i64 t202, .int .i64 t203, .int .i64 t204, .int .i64 t205, .int .i64 t206, .int .i64 t207]) (ok := fun _ => True) (okp := fun _ => True) ?hr ?hp (fun _ hk => hk) trivial (Below.refl _ _) (Nat.le_refl _) (by simp) ?_; (case hd => rfl); (case hg => rfl); (case hr => first | (go_simp; done) | (go_simp; rfl)); (case hp => exact (Reps.c7 (show Kd.M k55 _ _ _ (⟨(⟨t193, t194, t195, t196⟩ : S37), (⟨t197, t198, t199⟩ : S32)⟩ : S55) [.int .i64 t193, .int .i64 t194, .int .i64 t195, .int .i64 t196, .int .i64 t197, .int .i64 t198, .int .i64 t199] from (k55_mkM _ _ _ (⟨(⟨t193, t194, t195, t196⟩ : S37), (⟨t197, t198, t199⟩ : S32)⟩ : S55) )) (Reps.c7 (show Kd.M k55 _ _ _ (⟨(⟨t201, t202, t203, t204⟩ : S37), (⟨t205, t206, t207⟩ : S32)⟩ : S55) [.int .i64 t201, .int .i64 t202, .int .i64 t203, .int .i64 t204, .int .i64 t205, .int .i64 t206, .int .i64 t207] from (k55_mkM _ _ _ (⟨(⟨t201, t202, t203, t204⟩ : S37), (⟨t205, t206, t207⟩ : S32)⟩ : S55) )) (Reps.none _ _))))
     intro v209 w36 ho37 hb hg_ hnew_
     have HS7_ := (hb.cell (World.block_lt_of_cell? _ _ (hHeld.2.2.2.2.2.2.2.1))).trans (hHeld.2.2.2.2.2.2.2.1)
     have HS8_ := (hb.cell (World.block_lt_of_cell? _ _ (hHeld.2.2.2.2.2.2.2.2.1))).trans (hHeld.2.2.2.2.2.2.2.2.1)
     have HS9_ := (hb.cell (World.block_lt_of_cell? _ _ (hHeld.2.2.2.2.2.2.2.2.2.1))).trans (hHeld.2.2.2.2.2.2.2.2.2.1)
     have HS10_ := (hb.cell (World.block_lt_of_cell? _ _ (hHeld.2.2.2.2.2.2.2.2.2.2.1))).trans (hHeld.2.2.2.2.2.2.2.2.2.2.1)
     have HS11_ := (hb.cell (World.block_lt_of_cell? _ _ (hHeld.2.2.2.2.2.2.2.2.2.2.2.1))).trans (hHeld.2.2.2.2.2.2.2.2.2.2.2.1)
     have HS12_ := (hb.cell (World.block_lt_of_cell? _ _ (hHeld.2.2.2.2.2.2.2.2.2.2.2.2.1))).trans (hHeld.2.2.2.2.2.2.2.2.2.2.2.2.1)
     have HS13_ := (hb.cell (World.block_lt_of_cell? _ _ (hHeld.2.2.2.2.2.2.2.2.2.2.2.2.2.1))).trans (hHeld.2.2.2.2.2.2.2.2.2.2.2.2.2.1)
     have HS14_ := (hb.cell (World.block_lt_of_cell? _ _ (hHeld.2.2.2.2.2.2.2.2.2.2.2.2.2.2))).trans (hHeld.2.2.2.2.2.2.2.2.2.2.2.2.2.2)
     clear hg_ hnew_
     (first | rw [← Ny208.out] at ho37 | (simp only [Int.reduceToNat] at ho37; rw [← Ny208.out] at ho37))
     have n0_ := Za (Kd.R_below (by (with_reducible repeat (first | apply Kd.R_alloc | apply Kd.R_drewN | apply Kd.R_drew)); exact HO188.out) hb)
     have n1_ := Za (Kd.R_lower (Kd.R_newB ho37 (g := gb180) (o := .cells #[.int .i64 a0_0, .int .i64 a0_1, .int .i64 a0_2, .int .i64 a0_3, .int .i64 a0_4, .int .i64 a0_5, .int .i64 a0_6] 55 (0, 0)) (bb_8 BK180.out)) (Xk (hb_8 HB.out)))
     have n2_ := Za (Xl (g := gb180) (o := .cells #[.int .i64 a0_0, .int .i64 a0_1, .int .i64 a0_2, .int .i64 a0_3, .int .i64 a0_4, .int .i64 a0_5, .int .i64 a0_6] 55 (0, 0)) (bb_8 BK180.out) hb)
     have n3_ := Za (Xi (hb_8 HB.out) hb)
     clear HO188
     clear BK180
     clear HB
     have HO188 := n0_
     have HO210 := n1_
     have BK180 := n2_
     have HB := n3_
     clear n0_ n1_ n2_ n3_
     clear hb ho37
     refine hK.out _ _ ⟨(Xd BK180.out 0).trans rfl, (Xd BK180.out 1).trans rfl, (Xd BK180.out 2).trans rfl, (Xd BK180.out 3).trans rfl, (Xd BK180.out 4).trans rfl, (Xd BK180.out 5).trans rfl, (Xd BK180.out 6).trans rfl, HS7_, HS8_, HS9_, HS10_, HS11_, HS12_, HS13_, HS14_⟩ (fun hHeld => ?_)
     clear hK K
     refine norm_ (a' := ?_) ?_ ?_
     rotate_left
     ·show Act.put _ (some 31) _ = _
      simp only [Act.put, Xa, Xb, Xc, i64_w, i32_w]
      rfl
     refine pure_ (i := 11) (N := some 6) (v := ?_) (a' := ?_) #[Zt,Zt,Zt,Zt,Zt,Zt,Zt,Zt,Zt,Zt,Zt,Zt] rfl rfl (any_of HT_.out (by kernel_rfl)) (fun _ _ _ h => h) (Or.inl ⟨by rfl, ?_⟩) ?_ ?_
     rotate_left
     ·intro w'
      go_simp
      with_reducible rfl
     rotate_left
     ·simp only [Act.put, Xa, Xb, Xc, i64_w, i32_w]
      rfl
     refine done_ (done_of HT_.out (by kernel_rfl)) ?_
     try go_wp2
     go_ret
     exact ⟨_, by first | rfl | (simp [errW_none, errW_some] <;> rfl) | (simp [*, errW_none, errW_some] <;> rfl), by (with_reducible repeat (first | apply Kd.R_alloc | apply Kd.R_drewN | apply Kd.R_drew)); exact Kd.R_mono HO210.out (fun _ hk => trivial), by repeat (first | (with_reducible first | exact HB.out | apply below_alloc | apply pw_below_drewN | apply below_drew1 | refine below_set ?_ GE180.out) | exact HB.out)⟩
    ·rw [if_neg c24] at H
     exact absurd H (by simp)
   ·rw [if_neg c22] at H
    exact absurd H (by simp)

/-! ### gatherumlaw38_alive: function 36 -/
def gatherumlaw38_alive.f (k : Nat)  : Option (Bool) := (layer_Of.f 0 0 4 2).bind fun bt211 => ((layer_Lay.f k bt211.1 bt211.2.1 bt211.2.2.1 bt211.2.2.2.1 bt211.2.2.2.2.1 bt211.2.2.2.2.2.1 bt211.2.2.2.2.2.2 4 4 0).bind fun bt218 => ((layer_Cut.f k bt218.1 bt218.2.1 bt218.2.2.1 bt218.2.2.2.1 bt218.2.2.2.2.1 bt218.2.2.2.2.2.1 bt218.2.2.2.2.2.2 Zt 1).bind fun t226 => ((layer_Up.f bt218.1 bt218.2.1 bt218.2.2.1 bt218.2.2.2.1 bt218.2.2.2.2.1 bt218.2.2.2.2.2.1 bt218.2.2.2.2.2.2).bind fun t229 => (if t229 = Zt then (some Zf) else (if (t226.length : Int) = 2 then (if 0 < (t226.length : Int) then (if (((rd_T55 t226 0).f0.f0) == 3 && (((rd_T55 t226 0).f0.f1) == 0 && (((rd_T55 t226 0).f0.f2) == 4 && (((rd_T55 t226 0).f0.f3) == 2)))) = Zt then (if 1 < (t226.length : Int) then ((layer_Lies.f k ((rd_T55 t226 1).f0.f0) ((rd_T55 t226 1).f0.f1) ((rd_T55 t226 1).f0.f2) ((rd_T55 t226 1).f0.f3) ((rd_T55 t226 1).f1.f0) ((rd_T55 t226 1).f1.f1) ((rd_T55 t226 1).f1.f2)).bind fun bt232 => (some (bt232.1 == 1 && (bt232.2.1 == 0 && (bt232.2.2.1 == 4 && (bt232.2.2.2 == 2)))))) else (none)) else (some Zf)) else (none)) else (some Zf))))))
theorem gatherumlaw38_alive.mono : ∀ k, LeO (gatherumlaw38_alive.f k ) (gatherumlaw38_alive.f (k + 1) ) := by
 intro  k
 unfold gatherumlaw38_alive.f
 repeat' first
   | (with_reducible exact layer_Cut.mono _ _ _ _ _ _ _ _ _ _)
   | (with_reducible exact layer_Lay.mono _ _ _ _ _ _ _ _ _ _ _)
   | (with_reducible exact layer_Lies.mono _ _ _ _ _ _ _ _)
   | (with_reducible exact LeO.refl _)
   | (with_reducible exact LeO.none _)
   | (with_reducible refine LeO.ite ?_ ?_)
   | (with_reducible refine LeO.bind ?_ (fun _ => ?_))
   | exact layer_Cut.mono _ _ _ _ _ _ _ _ _ _
   | exact layer_Lay.mono _ _ _ _ _ _ _ _ _ _ _
   | exact layer_Lies.mono _ _ _ _ _ _ _ _
   | exact LeO.none _
   | refine LeO.ite ?_ ?_
   | refine LeO.bind ?_ (fun _ => ?_)
set_option maxHeartbeats 8000000 in
set_option maxRecDepth 100000 in
theorem gatherumlaw38_alive.calls (k : Nat)  (r : Bool) (w : World) (h : gatherumlaw38_alive.f k  = some r) :
  Calls Try.prog 36 #[] w fun e w' => e = .returned (.bool r) ∧ Below w.heap.size w w' := by
 have hu37 := Try.underlying37
 have hu32 := Try.underlying32
 have hu55 := Try.underlying55
 have HB := Za (Below.refl w.heap.size w)
 have H : ((layer_Of.f 0 0 4 2).bind fun bt211 => ((layer_Lay.f k bt211.1 bt211.2.1 bt211.2.2.1 bt211.2.2.2.1 bt211.2.2.2.2.1 bt211.2.2.2.2.2.1 bt211.2.2.2.2.2.2 4 4 0).bind fun bt218 => ((layer_Cut.f k bt218.1 bt218.2.1 bt218.2.2.1 bt218.2.2.2.1 bt218.2.2.2.2.1 bt218.2.2.2.2.2.1 bt218.2.2.2.2.2.2 Zt 1).bind fun t226 => ((layer_Up.f bt218.1 bt218.2.1 bt218.2.2.1 bt218.2.2.2.1 bt218.2.2.2.2.1 bt218.2.2.2.2.2.1 bt218.2.2.2.2.2.2).bind fun t229 => (if t229 = Zt then (some Zf) else (if (t226.length : Int) = 2 then (if 0 < (t226.length : Int) then (if (((rd_T55 t226 0).f0.f0) == 3 && (((rd_T55 t226 0).f0.f1) == 0 && (((rd_T55 t226 0).f0.f2) == 4 && (((rd_T55 t226 0).f0.f3) == 2)))) = Zt then (if 1 < (t226.length : Int) then ((layer_Lies.f k ((rd_T55 t226 1).f0.f0) ((rd_T55 t226 1).f0.f1) ((rd_T55 t226 1).f0.f2) ((rd_T55 t226 1).f0.f3) ((rd_T55 t226 1).f1.f0) ((rd_T55 t226 1).f1.f1) ((rd_T55 t226 1).f1.f2)).bind fun bt232 => (some (bt232.1 == 1 && (bt232.2.1 == 0 && (bt232.2.2.1 == 4 && (bt232.2.2.2 == 2)))))) else (none)) else (some Zf)) else (none)) else (some Zf))))))) = some r := h
 clear h
 replace H := Option.bind_eq_some_iff.mp H
 obtain ⟨⟨t211, t212, t213, t214, t215, t216, t217⟩, A10, H⟩ := H
 replace H : ((layer_Lay.f k t211 t212 t213 t214 t215 t216 t217 4 4 0).bind fun bt218 => ((layer_Cut.f k bt218.1 bt218.2.1 bt218.2.2.1 bt218.2.2.2.1 bt218.2.2.2.2.1 bt218.2.2.2.2.2.1 bt218.2.2.2.2.2.2 Zt 1).bind fun t226 => ((layer_Up.f bt218.1 bt218.2.1 bt218.2.2.1 bt218.2.2.2.1 bt218.2.2.2.2.1 bt218.2.2.2.2.2.1 bt218.2.2.2.2.2.2).bind fun t229 => (if t229 = Zt then (some Zf) else (if (t226.length : Int) = 2 then (if 0 < (t226.length : Int) then (if (((rd_T55 t226 0).f0.f0) == 3 && (((rd_T55 t226 0).f0.f1) == 0 && (((rd_T55 t226 0).f0.f2) == 4 && (((rd_T55 t226 0).f0.f3) == 2)))) = Zt then (if 1 < (t226.length : Int) then ((layer_Lies.f k ((rd_T55 t226 1).f0.f0) ((rd_T55 t226 1).f0.f1) ((rd_T55 t226 1).f0.f2) ((rd_T55 t226 1).f0.f3) ((rd_T55 t226 1).f1.f0) ((rd_T55 t226 1).f1.f1) ((rd_T55 t226 1).f1.f2)).bind fun bt232 => (some (bt232.1 == 1 && (bt232.2.1 == 0 && (bt232.2.2.1 == 4 && (bt232.2.2.2 == 2)))))) else (none)) else (some Zf)) else (none)) else (some Zf)))))) = some r := H
 have A1 := Za A10
 clear A10
 replace H := Option.bind_eq_some_iff.mp H
 obtain ⟨⟨t218, t219, t220, t221, t222, t223, t224⟩, A20, H⟩ := H
 replace H : ((layer_Cut.f k t218 t219 t220 t221 t222 t223 t224 Zt 1).bind fun t226 => ((layer_Up.f t218 t219 t220 t221 t222 t223 t224).bind fun t229 => (if t229 = Zt then (some Zf) else (if (t226.length : Int) = 2 then (if 0 < (t226.length : Int) then (if (((rd_T55 t226 0).f0.f0) == 3 && (((rd_T55 t226 0).f0.f1) == 0 && (((rd_T55 t226 0).f0.f2) == 4 && (((rd_T55 t226 0).f0.f3) == 2)))) = Zt then (if 1 < (t226.length : Int) then ((layer_Lies.f k ((rd_T55 t226 1).f0.f0) ((rd_T55 t226 1).f0.f1) ((rd_T55 t226 1).f0.f2) ((rd_T55 t226 1).f0.f3) ((rd_T55 t226 1).f1.f0) ((rd_T55 t226 1).f1.f1) ((rd_T55 t226 1).f1.f2)).bind fun bt232 => (some (bt232.1 == 1 && (bt232.2.1 == 0 && (bt232.2.2.1 == 4 && (bt232.2.2.2 == 2)))))) else (none)) else (some Zf)) else (none)) else (some Zf))))) = some r := H
 have A2 := Za A20
 clear A20
 replace H := Option.bind_eq_some_iff.mp H
 obtain ⟨t226, A30, H⟩ := H
 replace H : ((layer_Up.f t218 t219 t220 t221 t222 t223 t224).bind fun t229 => (if t229 = Zt then (some Zf) else (if (t226.length : Int) = 2 then (if 0 < (t226.length : Int) then (if (((rd_T55 t226 0).f0.f0) == 3 && (((rd_T55 t226 0).f0.f1) == 0 && (((rd_T55 t226 0).f0.f2) == 4 && (((rd_T55 t226 0).f0.f3) == 2)))) = Zt then (if 1 < (t226.length : Int) then ((layer_Lies.f k ((rd_T55 t226 1).f0.f0) ((rd_T55 t226 1).f0.f1) ((rd_T55 t226 1).f0.f2) ((rd_T55 t226 1).f0.f3) ((rd_T55 t226 1).f1.f0) ((rd_T55 t226 1).f1.f1) ((rd_T55 t226 1).f1.f2)).bind fun bt232 => (some (bt232.1 == 1 && (bt232.2.1 == 0 && (bt232.2.2.1 == 4 && (bt232.2.2.2 == 2)))))) else (none)) else (some Zf)) else (none)) else (some Zf)))) = some r := H
 have A3 := Za A30
 clear A30
 replace H := Option.bind_eq_some_iff.mp H
 obtain ⟨t229, A40, H⟩ := H
 replace H : (if t229 = Zt then (some Zf) else (if (t226.length : Int) = 2 then (if 0 < (t226.length : Int) then (if (((rd_T55 t226 0).f0.f0) == 3 && (((rd_T55 t226 0).f0.f1) == 0 && (((rd_T55 t226 0).f0.f2) == 4 && (((rd_T55 t226 0).f0.f3) == 2)))) = Zt then (if 1 < (t226.length : Int) then ((layer_Lies.f k ((rd_T55 t226 1).f0.f0) ((rd_T55 t226 1).f0.f1) ((rd_T55 t226 1).f0.f2) ((rd_T55 t226 1).f0.f3) ((rd_T55 t226 1).f1.f0) ((rd_T55 t226 1).f1.f1) ((rd_T55 t226 1).f1.f2)).bind fun bt232 => (some (bt232.1 == 1 && (bt232.2.1 == 0 && (bt232.2.2.1 == 4 && (bt232.2.2.2 == 2)))))) else (none)) else (some Zf)) else (none)) else (some Zf))) = some r := H
 have A4 := Za A40
 clear A40
 by_cases c5 : t229 = Zt
 ·subst c5
  have H1 : (some Zf) = some r := by rw [if_pos rfl] at H; exact H
  clear H
  have H := H1
  clear H1
  obtain rfl := Option.some.inj H
  go_enter Try.func36, Try.ntmps36
  go_wp2_with (first | ((with_reducible refine Xm (f := 38) rfl ?_); refine goesL_ (some 4) rfl rfl Try.func38 (by kernel_rfl) rfl #[.agg #[.int .i64 0, .int .i64 0, .int .i64 4, .int .i64 2]] rfl (by (try simp only [List.map_toArray, List.map_cons, List.map_nil]); first | done | rfl | (simp only [List.length_drop, List.length_take]; rfl)) ?_; (with_reducible refine (layer_Of.calls 0 0 4 2 t211 t212 t213 t214 t215 t216 t217 _ A1.out).mono ?_); rintro e w6 ⟨rfl, hb⟩; refine ⟨_, rfl, ?_⟩; have n0_ := Za (Xi (hb_8 HB.out) hb); clear HB; have HB := n0_; clear n0_; (try clear hb); (try clear hb2); (try clear hk); (try clear hi)) | ((with_reducible refine Xm (f := 37) rfl ?_); refine goesL_ (some 6) rfl rfl Try.func37 (by kernel_rfl) rfl #[.agg #[.int .i64 t211, .int .i64 t212, .int .i64 t213, .int .i64 t214, .int .i64 t215, .int .i64 t216, .int .i64 t217], .agg #[.int .i64 4, .int .i64 4, .int .i64 0]] rfl (by (try simp only [List.map_toArray, List.map_cons, List.map_nil]); first | done | rfl | (simp only [List.length_drop, List.length_take]; rfl)) ?_; (with_reducible refine (layer_Lay.calls k t211 t212 t213 t214 t215 t216 t217 4 4 0 t218 t219 t220 t221 t222 t223 t224 _ A2.out).mono ?_); rintro e w7 ⟨rfl, hb⟩; refine ⟨_, rfl, ?_⟩; have n0_ := Za (Xi (hb_8 HB.out) hb); clear HB; have HB := n0_; clear n0_; (try clear hb); (try clear hb2); (try clear hk); (try clear hi)) | ((with_reducible refine gate_dst (N := 1) rfl ?_); (try (refine gate_guard (by rfl) ?_; dsimp only)); refine box_event ?hg (N := 1) ?hd (cs := #[.int .i64 0, .int .i64 0, .int .i64 0, .int .i64 0, .int .i64 0, .int .i64 0, .int .i64 0]) (t := 55) ?hr ?_; (case hd => rfl); (case hg => rfl); (case hr => first | (go_simp; done) | (go_simp; rfl)); intro gb225 hg w8 hbox hb; have n0_ := Za (Xi (hb_8 HB.out) hb); have n1_ := Za (hbox); have n2_ := Za ((by rw [hg]; exact (Xk (hb_8 HB.out)) : w.heap.size ≤ gb225)); have n3_ := Za ((by rw [hg]; exact (Xk (hb_8 HB.out)) : w.heap.size ≤ gb225)); clear HB; have HB := n0_; have BK225 := n1_; have GW225 := n2_; have GE225 := n3_; clear n0_ n1_ n2_ n3_; clear hb hbox hg; have hcz9_0 : w8.cell? ⟨gb225, 0, none⟩ = some (.int .i64 0) := (Xd BK225.out 0).trans rfl; have hcz9_1 : w8.cell? ⟨gb225, 1, none⟩ = some (.int .i64 0) := (Xd BK225.out 1).trans rfl; have hcz9_2 : w8.cell? ⟨gb225, 2, none⟩ = some (.int .i64 0) := (Xd BK225.out 2).trans rfl; have hcz9_3 : w8.cell? ⟨gb225, 3, none⟩ = some (.int .i64 0) := (Xd BK225.out 3).trans rfl; have hcz9_4 : w8.cell? ⟨gb225, 4, none⟩ = some (.int .i64 0) := (Xd BK225.out 4).trans rfl; have hcz9_5 : w8.cell? ⟨gb225, 5, none⟩ = some (.int .i64 0) := (Xd BK225.out 5).trans rfl; have hcz9_6 : w8.cell? ⟨gb225, 6, none⟩ = some (.int .i64 0) := (Xd BK225.out 6).trans rfl; have hfz9_0 := Xe BK225.out 0; have hfz9_1 := Xe BK225.out 1; have hfz9_2 := Xe BK225.out 2; have hfz9_3 := Xe BK225.out 3; have hfz9_4 := Xe BK225.out 4; have hfz9_5 := Xe BK225.out 5; have hfz9_6 := Xe BK225.out 6) | ((with_reducible refine Xm (f := 44) rfl ?_); refine goesL_ (some 8) rfl rfl Try.func44 (by kernel_rfl) rfl #[.agg #[.int .i64 t218, .int .i64 t219, .int .i64 t220, .int .i64 t221, .int .i64 t222, .int .i64 t223, .int .i64 t224], .bool Zt, .int .i64 1] rfl (by (try simp only [List.map_toArray, List.map_cons, List.map_nil]); first | done | rfl | (simp only [List.length_drop, List.length_take]; rfl)) ?_; (with_reducible refine (layer_Cut.calls k t218 t219 t220 t221 t222 t223 t224 Zt 1 t226 _ A3.out).mono ?_); rintro e w10 ⟨v227, rfl, ho0, hb⟩; refine ⟨_, rfl, ?_⟩; have n0_ := Za (Kd.R_lower (Kd.R_newB ho0 (g := gb225) (o := .cells #[.int .i64 t218, .int .i64 t219, .int .i64 t220, .int .i64 t221, .int .i64 t222, .int .i64 t223, .int .i64 t224] 55 (0, 0)) (by (with_reducible repeat (first | refine Xf ?_ _ | refine Xh ?_ | refine Xg ?_ _)); refine Xj (cs := #[.int .i64 t218, .int .i64 t219, .int .i64 t220, .int .i64 t221, .int .i64 t222, .int .i64 t223, .int .i64 0]) ?_ 6 _ rfl; (with_reducible repeat (first | refine Xf ?_ _ | refine Xh ?_ | refine Xg ?_ _)); refine Xj (cs := #[.int .i64 t218, .int .i64 t219, .int .i64 t220, .int .i64 t221, .int .i64 t222, .int .i64 0, .int .i64 0]) ?_ 5 _ rfl; (with_reducible repeat (first | refine Xf ?_ _ | refine Xh ?_ | refine Xg ?_ _)); refine Xj (cs := #[.int .i64 t218, .int .i64 t219, .int .i64 t220, .int .i64 t221, .int .i64 0, .int .i64 0, .int .i64 0]) ?_ 4 _ rfl; (with_reducible repeat (first | refine Xf ?_ _ | refine Xh ?_ | refine Xg ?_ _)); refine Xj (cs := #[.int .i64 t218, .int .i64 t219, .int .i64 t220, .int .i64 0, .int .i64 0, .int .i64 0, .int .i64 0]) ?_ 3 _ rfl; (with_reducible repeat (first | refine Xf ?_ _ | refine Xh ?_ | refine Xg ?_ _)); refine Xj (cs := #[.int .i64 t218, .int .i64 t219, .int .i64 0, .int .i64 0, .int .i64 0, .int .i64 0, .int .i64 0]) ?_ 2 _ rfl; (with_reducible repeat (first | refine Xf ?_ _ | refine Xh ?_ | refine Xg ?_ _)); refine Xj (cs := #[.int .i64 t218, .int .i64 0, .int .i64 0, .int .i64 0, .int .i64 0, .int .i64 0, .int .i64 0]) ?_ 1 _ rfl; (with_reducible repeat (first | refine Xf ?_ _ | refine Xh ?_ | refine Xg ?_ _)); refine Xj (cs := #[.int .i64 0, .int .i64 0, .int .i64 0, .int .i64 0, .int .i64 0, .int .i64 0, .int .i64 0]) ?_ 0 _ rfl; (with_reducible repeat (first | refine Xf ?_ _ | refine Xh ?_ | refine Xg ?_ _)); exact BK225.out)) (Xk (hb_8 HB.out))); have n1_ := Za (Xl (g := gb225) (o := .cells #[.int .i64 t218, .int .i64 t219, .int .i64 t220, .int .i64 t221, .int .i64 t222, .int .i64 t223, .int .i64 t224] 55 (0, 0)) (by (with_reducible repeat (first | refine Xf ?_ _ | refine Xh ?_ | refine Xg ?_ _)); refine Xj (cs := #[.int .i64 t218, .int .i64 t219, .int .i64 t220, .int .i64 t221, .int .i64 t222, .int .i64 t223, .int .i64 0]) ?_ 6 _ rfl; (with_reducible repeat (first | refine Xf ?_ _ | refine Xh ?_ | refine Xg ?_ _)); refine Xj (cs := #[.int .i64 t218, .int .i64 t219, .int .i64 t220, .int .i64 t221, .int .i64 t222, .int .i64 0, .int .i64 0]) ?_ 5 _ rfl; (with_reducible repeat (first | refine Xf ?_ _ | refine Xh ?_ | refine Xg ?_ _)); refine Xj (cs := #[.int .i64 t218, .int .i64 t219, .int .i64 t220, .int .i64 t221, .int .i64 0, .int .i64 0, .int .i64 0]) ?_ 4 _ rfl; (with_reducible repeat (first | refine Xf ?_ _ | refine Xh ?_ | refine Xg ?_ _)); refine Xj (cs := #[.int .i64 t218, .int .i64 t219, .int .i64 t220, .int .i64 0, .int .i64 0, .int .i64 0, .int .i64 0]) ?_ 3 _ rfl; (with_reducible repeat (first | refine Xf ?_ _ | refine Xh ?_ | refine Xg ?_ _)); refine Xj (cs := #[.int .i64 t218, .int .i64 t219, .int .i64 0, .int .i64 0, .int .i64 0, .int .i64 0, .int .i64 0]) ?_ 2 _ rfl; (with_reducible repeat (first | refine Xf ?_ _ | refine Xh ?_ | refine Xg ?_ _)); refine Xj (cs := #[.int .i64 t218, .int .i64 0, .int .i64 0, .int .i64 0, .int .i64 0, .int .i64 0, .int .i64 0]) ?_ 1 _ rfl; (with_reducible repeat (first | refine Xf ?_ _ | refine Xh ?_ | refine Xg ?_ _)); refine Xj (cs := #[.int .i64 0, .int .i64 0, .int .i64 0, .int .i64 0, .int .i64 0, .int .i64 0, .int .i64 0]) ?_ 0 _ rfl; (with_reducible repeat (first | refine Xf ?_ _ | refine Xh ?_ | refine Xg ?_ _)); exact BK225.out) hb); have n2_ := Za (Xi (hb_8 HB.out) hb); clear BK225; clear HB; have HO228 := n0_; have BK225 := n1_; have HB := n2_; clear n0_ n1_ n2_; (try clear hb); (try clear hb2); (try clear hk); (try clear hi); (try clear ho0); have hcz11_0 : w10.cell? ⟨gb225, 0, none⟩ = some (.int .i64 t218) := (Xd BK225.out 0).trans rfl; have hcz11_1 : w10.cell? ⟨gb225, 1, none⟩ = some (.int .i64 t219) := (Xd BK225.out 1).trans rfl; have hcz11_2 : w10.cell? ⟨gb225, 2, none⟩ = some (.int .i64 t220) := (Xd BK225.out 2).trans rfl; have hcz11_3 : w10.cell? ⟨gb225, 3, none⟩ = some (.int .i64 t221) := (Xd BK225.out 3).trans rfl; have hcz11_4 : w10.cell? ⟨gb225, 4, none⟩ = some (.int .i64 t222) := (Xd BK225.out 4).trans rfl; have hcz11_5 : w10.cell? ⟨gb225, 5, none⟩ = some (.int .i64 t223) := (Xd BK225.out 5).trans rfl; have hcz11_6 : w10.cell? ⟨gb225, 6, none⟩ = some (.int .i64 t224) := (Xd BK225.out 6).trans rfl; have hfz11_0 := Xe BK225.out 0; have hfz11_1 := Xe BK225.out 1; have hfz11_2 := Xe BK225.out 2; have hfz11_3 := Xe BK225.out 3; have hfz11_4 := Xe BK225.out 4; have hfz11_5 := Xe BK225.out 5; have hfz11_6 := Xe BK225.out 6) | ((with_reducible refine Xm (f := 41) rfl ?_); refine goesL_ (some 10) rfl rfl Try.func41 (by kernel_rfl) rfl #[.agg #[.int .i64 t218, .int .i64 t219, .int .i64 t220, .int .i64 t221, .int .i64 t222, .int .i64 t223, .int .i64 t224]] rfl (by (try simp only [List.map_toArray, List.map_cons, List.map_nil]); first | done | rfl | (simp only [List.length_drop, List.length_take]; rfl)) ?_; (with_reducible refine (layer_Up.calls t218 t219 t220 t221 t222 t223 t224 Zt _ A4.out).mono ?_); rintro e w12 ⟨rfl, hb⟩; refine ⟨_, rfl, ?_⟩; have n0_ := Za (Kd.R_below (by (with_reducible repeat (first | apply Kd.R_alloc | apply Kd.R_drewN | apply Kd.R_drew)); exact HO228.out) hb); have n1_ := Za (Xl (g := gb225) (o := .cells #[.int .i64 t218, .int .i64 t219, .int .i64 t220, .int .i64 t221, .int .i64 t222, .int .i64 t223, .int .i64 t224] 55 (0, 0)) (bb_8 BK225.out) hb); have n2_ := Za (Xi (hb_8 HB.out) hb); clear HO228; clear BK225; clear HB; have HO228 := n0_; have BK225 := n1_; have HB := n2_; clear n0_ n1_ n2_; (try clear hb); (try clear hb2); (try clear hk); (try clear hi)))
  go_ret
  exact ⟨by first | rfl | (simp [errW_none, errW_some] <;> rfl) | (simp [*, errW_none, errW_some] <;> rfl), by repeat (first | (with_reducible first | exact HB.out | apply below_alloc | apply pw_below_drewN | apply below_drew1 | refine below_set ?_ GE225.out) | exact HB.out)⟩
 ·replace c5 := Bool.eq_false_iff.mpr c5
  subst c5
  have H1 : (if (t226.length : Int) = 2 then (if 0 < (t226.length : Int) then (if (((rd_T55 t226 0).f0.f0) == 3 && (((rd_T55 t226 0).f0.f1) == 0 && (((rd_T55 t226 0).f0.f2) == 4 && (((rd_T55 t226 0).f0.f3) == 2)))) = Zt then (if 1 < (t226.length : Int) then ((layer_Lies.f k ((rd_T55 t226 1).f0.f0) ((rd_T55 t226 1).f0.f1) ((rd_T55 t226 1).f0.f2) ((rd_T55 t226 1).f0.f3) ((rd_T55 t226 1).f1.f0) ((rd_T55 t226 1).f1.f1) ((rd_T55 t226 1).f1.f2)).bind fun bt232 => (some (bt232.1 == 1 && (bt232.2.1 == 0 && (bt232.2.2.1 == 4 && (bt232.2.2.2 == 2)))))) else (none)) else (some Zf)) else (none)) else (some Zf)) = some r := by rw [if_neg (show ¬ (Zf = Zt) by decide)] at H; exact H
  clear H
  have H := H1
  clear H1
  by_cases c13 : (t226.length : Int) = 2
  ·rw [if_pos c13] at H
   have c13b0 : ((t226.length : Int) == 2) = Zt := beq_iff_eq.mpr c13
   have c13b1 : ((t226.length : Int) != 2) = Zf := bne_eq_false_iff_eq.mpr c13
   clear c13
   by_cases c14 : 0 < (t226.length : Int)
   ·rw [if_pos c14] at H
    have c14b0 : decide (0 < (t226.length : Int)) = Zt := decide_eq_true c14
    have c14b1 : decide (0 < t226.length) = Zt := decide_eq_true (by omega)
    clear c14
    by_cases c15 : (((rd_T55 t226 0).f0.f0) == 3 && (((rd_T55 t226 0).f0.f1) == 0 && (((rd_T55 t226 0).f0.f2) == 4 && (((rd_T55 t226 0).f0.f3) == 2)))) = Zt
    ·rw [if_pos c15] at H
     have c15b0 : (((rd_T55 t226 0).f0.f0) == 3 && (((rd_T55 t226 0).f0.f1) == 0 && (((rd_T55 t226 0).f0.f2) == 4 && (((rd_T55 t226 0).f0.f3) == 2)))) = Zt := c15
     (try (have c15b1 : decide (((rd_T55 t226 0).f0.f0) = 3 && (((rd_T55 t226 0).f0.f1) == 0 && (((rd_T55 t226 0).f0.f2) == 4 && (((rd_T55 t226 0).f0.f3) == 2)))) = Zt := by simpa using c15))
     (try (have c15b2 : (((rd_T55 t226 0).f0.f0) == 3 && (((rd_T55 t226 0).f0.f1) == 0 && (((rd_T55 t226 0).f0.f2) == 4 && (((rd_T55 t226 0).f0.f3) == 2)))) = Zt := by simpa using c15))
     clear c15
     by_cases c16 : 1 < (t226.length : Int)
     ·rw [if_pos c16] at H
      have c16b0 : decide (1 < (t226.length : Int)) = Zt := decide_eq_true c16
      have c16b1 : decide (1 < t226.length) = Zt := decide_eq_true (by omega)
      clear c16
      replace H := Option.bind_eq_some_iff.mp H
      obtain ⟨⟨t232, t233, t234, t235⟩, A170, H⟩ := H
      replace H : (some (t232 == 1 && (t233 == 0 && (t234 == 4 && (t235 == 2))))) = some r := H
      have A17 := Za A170
      clear A170
      obtain rfl := Option.some.inj H
      go_enter Try.func36, Try.ntmps36
      go_wp2_with (first | ((with_reducible refine Xm (f := 38) rfl ?_); refine goesL_ (some 4) rfl rfl Try.func38 (by kernel_rfl) rfl #[.agg #[.int .i64 0, .int .i64 0, .int .i64 4, .int .i64 2]] rfl (by (try simp only [List.map_toArray, List.map_cons, List.map_nil]); first | done | rfl | (simp only [List.length_drop, List.length_take]; rfl)) ?_; (with_reducible refine (layer_Of.calls 0 0 4 2 t211 t212 t213 t214 t215 t216 t217 _ A1.out).mono ?_); rintro e w18 ⟨rfl, hb⟩; refine ⟨_, rfl, ?_⟩; have n0_ := Za (Xi (hb_8 HB.out) hb); clear HB; have HB := n0_; clear n0_; (try clear hb); (try clear hb2); (try clear hk); (try clear hi)) | ((with_reducible refine Xm (f := 37) rfl ?_); refine goesL_ (some 6) rfl rfl Try.func37 (by kernel_rfl) rfl #[.agg #[.int .i64 t211, .int .i64 t212, .int .i64 t213, .int .i64 t214, .int .i64 t215, .int .i64 t216, .int .i64 t217], .agg #[.int .i64 4, .int .i64 4, .int .i64 0]] rfl (by (try simp only [List.map_toArray, List.map_cons, List.map_nil]); first | done | rfl | (simp only [List.length_drop, List.length_take]; rfl)) ?_; (with_reducible refine (layer_Lay.calls k t211 t212 t213 t214 t215 t216 t217 4 4 0 t218 t219 t220 t221 t222 t223 t224 _ A2.out).mono ?_); rintro e w19 ⟨rfl, hb⟩; refine ⟨_, rfl, ?_⟩; have n0_ := Za (Xi (hb_8 HB.out) hb); clear HB; have HB := n0_; clear n0_; (try clear hb); (try clear hb2); (try clear hk); (try clear hi)) | ((with_reducible refine gate_dst (N := 1) rfl ?_); (try (refine gate_guard (by rfl) ?_; dsimp only)); refine box_event ?hg (N := 1) ?hd (cs := #[.int .i64 0, .int .i64 0, .int .i64 0, .int .i64 0, .int .i64 0, .int .i64 0, .int .i64 0]) (t := 55) ?hr ?_; (case hd => rfl); (case hg => rfl); (case hr => first | (go_simp; done) | (go_simp; rfl)); intro gb225 hg w20 hbox hb; have n0_ := Za (Xi (hb_8 HB.out) hb); have n1_ := Za (hbox); have n2_ := Za ((by rw [hg]; exact (Xk (hb_8 HB.out)) : w.heap.size ≤ gb225)); have n3_ := Za ((by rw [hg]; exact (Xk (hb_8 HB.out)) : w.heap.size ≤ gb225)); clear HB; have HB := n0_; have BK225 := n1_; have GW225 := n2_; have GE225 := n3_; clear n0_ n1_ n2_ n3_; clear hb hbox hg; have hcz21_0 : w20.cell? ⟨gb225, 0, none⟩ = some (.int .i64 0) := (Xd BK225.out 0).trans rfl; have hcz21_1 : w20.cell? ⟨gb225, 1, none⟩ = some (.int .i64 0) := (Xd BK225.out 1).trans rfl; have hcz21_2 : w20.cell? ⟨gb225, 2, none⟩ = some (.int .i64 0) := (Xd BK225.out 2).trans rfl; have hcz21_3 : w20.cell? ⟨gb225, 3, none⟩ = some (.int .i64 0) := (Xd BK225.out 3).trans rfl; have hcz21_4 : w20.cell? ⟨gb225, 4, none⟩ = some (.int .i64 0) := (Xd BK225.out 4).trans rfl; have hcz21_5 : w20.cell? ⟨gb225, 5, none⟩ = some (.int .i64 0) := (Xd BK225.out 5).trans rfl; have hcz21_6 : w20.cell? ⟨gb225, 6, none⟩ = some (.int .i64 0) := (Xd BK225.out 6).trans rfl; have hfz21_0 := Xe BK225.out 0; have hfz21_1 := Xe BK225.out 1; have hfz21_2 := Xe BK225.out 2; have hfz21_3 := Xe BK225.out 3; have hfz21_4 := Xe BK225.out 4; have hfz21_5 := Xe BK225.out 5; have hfz21_6 := Xe BK225.out 6) | ((with_reducible refine Xm (f := 44) rfl ?_); refine goesL_ (some 8) rfl rfl Try.func44 (by kernel_rfl) rfl #[.agg #[.int .i64 t218, .int .i64 t219, .int .i64 t220, .int .i64 t221, .int .i64 t222, .int .i64 t223, .int .i64 t224], .bool Zt, .int .i64 1] rfl (by (try simp only [List.map_toArray, List.map_cons, List.map_nil]); first | done | rfl | (simp only [List.length_drop, List.length_take]; rfl)) ?_; (with_reducible refine (layer_Cut.calls k t218 t219 t220 t221 t222 t223 t224 Zt 1 t226 _ A3.out).mono ?_); rintro e w22 ⟨v227, rfl, ho0, hb⟩; refine ⟨_, rfl, ?_⟩; have n0_ := Za (Kd.R_lower (Kd.R_newB ho0 (g := gb225) (o := .cells #[.int .i64 t218, .int .i64 t219, .int .i64 t220, .int .i64 t221, .int .i64 t222, .int .i64 t223, .int .i64 t224] 55 (0, 0)) (by (with_reducible repeat (first | refine Xf ?_ _ | refine Xh ?_ | refine Xg ?_ _)); refine Xj (cs := #[.int .i64 t218, .int .i64 t219, .int .i64 t220, .int .i64 t221, .int .i64 t222, .int .i64 t223, .int .i64 0]) ?_ 6 _ rfl; (with_reducible repeat (first | refine Xf ?_ _ | refine Xh ?_ | refine Xg ?_ _)); refine Xj (cs := #[.int .i64 t218, .int .i64 t219, .int .i64 t220, .int .i64 t221, .int .i64 t222, .int .i64 0, .int .i64 0]) ?_ 5 _ rfl; (with_reducible repeat (first | refine Xf ?_ _ | refine Xh ?_ | refine Xg ?_ _)); refine Xj (cs := #[.int .i64 t218, .int .i64 t219, .int .i64 t220, .int .i64 t221, .int .i64 0, .int .i64 0, .int .i64 0]) ?_ 4 _ rfl; (with_reducible repeat (first | refine Xf ?_ _ | refine Xh ?_ | refine Xg ?_ _)); refine Xj (cs := #[.int .i64 t218, .int .i64 t219, .int .i64 t220, .int .i64 0, .int .i64 0, .int .i64 0, .int .i64 0]) ?_ 3 _ rfl; (with_reducible repeat (first | refine Xf ?_ _ | refine Xh ?_ | refine Xg ?_ _)); refine Xj (cs := #[.int .i64 t218, .int .i64 t219, .int .i64 0, .int .i64 0, .int .i64 0, .int .i64 0, .int .i64 0]) ?_ 2 _ rfl; (with_reducible repeat (first | refine Xf ?_ _ | refine Xh ?_ | refine Xg ?_ _)); refine Xj (cs := #[.int .i64 t218, .int .i64 0, .int .i64 0, .int .i64 0, .int .i64 0, .int .i64 0, .int .i64 0]) ?_ 1 _ rfl; (with_reducible repeat (first | refine Xf ?_ _ | refine Xh ?_ | refine Xg ?_ _)); refine Xj (cs := #[.int .i64 0, .int .i64 0, .int .i64 0, .int .i64 0, .int .i64 0, .int .i64 0, .int .i64 0]) ?_ 0 _ rfl; (with_reducible repeat (first | refine Xf ?_ _ | refine Xh ?_ | refine Xg ?_ _)); exact BK225.out)) (Xk (hb_8 HB.out))); have n1_ := Za (Xl (g := gb225) (o := .cells #[.int .i64 t218, .int .i64 t219, .int .i64 t220, .int .i64 t221, .int .i64 t222, .int .i64 t223, .int .i64 t224] 55 (0, 0)) (by (with_reducible repeat (first | refine Xf ?_ _ | refine Xh ?_ | refine Xg ?_ _)); refine Xj (cs := #[.int .i64 t218, .int .i64 t219, .int .i64 t220, .int .i64 t221, .int .i64 t222, .int .i64 t223, .int .i64 0]) ?_ 6 _ rfl; (with_reducible repeat (first | refine Xf ?_ _ | refine Xh ?_ | refine Xg ?_ _)); refine Xj (cs := #[.int .i64 t218, .int .i64 t219, .int .i64 t220, .int .i64 t221, .int .i64 t222, .int .i64 0, .int .i64 0]) ?_ 5 _ rfl; (with_reducible repeat (first | refine Xf ?_ _ | refine Xh ?_ | refine Xg ?_ _)); refine Xj (cs := #[.int .i64 t218, .int .i64 t219, .int .i64 t220, .int .i64 t221, .int .i64 0, .int .i64 0, .int .i64 0]) ?_ 4 _ rfl; (with_reducible repeat (first | refine Xf ?_ _ | refine Xh ?_ | refine Xg ?_ _)); refine Xj (cs := #[.int .i64 t218, .int .i64 t219, .int .i64 t220, .int .i64 0, .int .i64 0, .int .i64 0, .int .i64 0]) ?_ 3 _ rfl; (with_reducible repeat (first | refine Xf ?_ _ | refine Xh ?_ | refine Xg ?_ _)); refine Xj (cs := #[.int .i64 t218, .int .i64 t219, .int .i64 0, .int .i64 0, .int .i64 0, .int .i64 0, .int .i64 0]) ?_ 2 _ rfl; (with_reducible repeat (first | refine Xf ?_ _ | refine Xh ?_ | refine Xg ?_ _)); refine Xj (cs := #[.int .i64 t218, .int .i64 0, .int .i64 0, .int .i64 0, .int .i64 0, .int .i64 0, .int .i64 0]) ?_ 1 _ rfl; (with_reducible repeat (first | refine Xf ?_ _ | refine Xh ?_ | refine Xg ?_ _)); refine Xj (cs := #[.int .i64 0, .int .i64 0, .int .i64 0, .int .i64 0, .int .i64 0, .int .i64 0, .int .i64 0]) ?_ 0 _ rfl; (with_reducible repeat (first | refine Xf ?_ _ | refine Xh ?_ | refine Xg ?_ _)); exact BK225.out) hb); have n2_ := Za (Xi (hb_8 HB.out) hb); clear BK225; clear HB; have HO228 := n0_; have BK225 := n1_; have HB := n2_; clear n0_ n1_ n2_; (try clear hb); (try clear hb2); (try clear hk); (try clear hi); (try clear ho0); have hcz23_0 : w22.cell? ⟨gb225, 0, none⟩ = some (.int .i64 t218) := (Xd BK225.out 0).trans rfl; have hcz23_1 : w22.cell? ⟨gb225, 1, none⟩ = some (.int .i64 t219) := (Xd BK225.out 1).trans rfl; have hcz23_2 : w22.cell? ⟨gb225, 2, none⟩ = some (.int .i64 t220) := (Xd BK225.out 2).trans rfl; have hcz23_3 : w22.cell? ⟨gb225, 3, none⟩ = some (.int .i64 t221) := (Xd BK225.out 3).trans rfl; have hcz23_4 : w22.cell? ⟨gb225, 4, none⟩ = some (.int .i64 t222) := (Xd BK225.out 4).trans rfl; have hcz23_5 : w22.cell? ⟨gb225, 5, none⟩ = some (.int .i64 t223) := (Xd BK225.out 5).trans rfl; have hcz23_6 : w22.cell? ⟨gb225, 6, none⟩ = some (.int .i64 t224) := (Xd BK225.out 6).trans rfl; have hfz23_0 := Xe BK225.out 0; have hfz23_1 := Xe BK225.out 1; have hfz23_2 := Xe BK225.out 2; have hfz23_3 := Xe BK225.out 3; have hfz23_4 := Xe BK225.out 4; have hfz23_5 := Xe BK225.out 5; have hfz23_6 := Xe BK225.out 6) | ((with_reducible refine Xm (f := 41) rfl ?_); refine goesL_ (some 10) rfl rfl Try.func41 (by kernel_rfl) rfl #[.agg #[.int .i64 t218, .int .i64 t219, .int .i64 t220, .int .i64 t221, .int .i64 t222, .int .i64 t223, .int .i64 t224]] rfl (by (try simp only [List.map_toArray, List.map_cons, List.map_nil]); first | done | rfl | (simp only [List.length_drop, List.length_take]; rfl)) ?_; (with_reducible refine (layer_Up.calls t218 t219 t220 t221 t222 t223 t224 Zf _ A4.out).mono ?_); rintro e w24 ⟨rfl, hb⟩; refine ⟨_, rfl, ?_⟩; have n0_ := Za (Kd.R_below (by (with_reducible repeat (first | apply Kd.R_alloc | apply Kd.R_drewN | apply Kd.R_drew)); exact HO228.out) hb); have n1_ := Za (Xl (g := gb225) (o := .cells #[.int .i64 t218, .int .i64 t219, .int .i64 t220, .int .i64 t221, .int .i64 t222, .int .i64 t223, .int .i64 t224] 55 (0, 0)) (bb_8 BK225.out) hb); have n2_ := Za (Xi (hb_8 HB.out) hb); clear HO228; clear BK225; clear HB; have HO228 := n0_; have BK225 := n1_; have HB := n2_; clear n0_ n1_ n2_; (try clear hb); (try clear hb2); (try clear hk); (try clear hi); obtain ⟨Ao25, co25, eo25⟩ := Kd.R_slice HO228.out; subst eo25; have p230 : 0 ≤ (0 : Int) := (by omega); have q230 : 0 < (t226.length : Int) := of_decide_eq_true (by first | (with_reducible assumption) | assumption); obtain ⟨ad230, e230, hx230_0, hx230_1, hx230_2, hx230_3, hx230_4, hx230_5, hx230_6⟩ := at_T55 (Kd.R_reads' HO228.out).2.2 0 p230 q230; cases e230; have qi230 : (0 < t226.length) = True := eq_true (by omega); (try rw [show ((0 : Int)).toNat = 0 from rfl] at hx230_0); (try rw [show 0 * 7 = 0 from rfl] at hx230_0); (try rw [Addr.add_zero'] at hx230_0); (try rw [show ((0 : Int)).toNat = 0 from rfl] at hx230_1); (try rw [show 0 * 7 = 0 from rfl] at hx230_1); (try rw [Addr.add_zero'] at hx230_1); (try rw [show ((0 : Int)).toNat = 0 from rfl] at hx230_2); (try rw [show 0 * 7 = 0 from rfl] at hx230_2); (try rw [Addr.add_zero'] at hx230_2); (try rw [show ((0 : Int)).toNat = 0 from rfl] at hx230_3); (try rw [show 0 * 7 = 0 from rfl] at hx230_3); (try rw [Addr.add_zero'] at hx230_3); (try rw [show ((0 : Int)).toNat = 0 from rfl] at hx230_4); (try rw [show 0 * 7 = 0 from rfl] at hx230_4); (try rw [Addr.add_zero'] at hx230_4); (try rw [show ((0 : Int)).toNat = 0 from rfl] at hx230_5); (try rw [show 0 * 7 = 0 from rfl] at hx230_5); (try rw [Addr.add_zero'] at hx230_5); (try rw [show ((0 : Int)).toNat = 0 from rfl] at hx230_6); (try rw [show 0 * 7 = 0 from rfl] at hx230_6); (try rw [Addr.add_zero'] at hx230_6); replace p230 := eq_true p230; replace q230 := eq_true q230; have p231 : 0 ≤ (1 : Int) := (by omega); have q231 : 1 < (t226.length : Int) := of_decide_eq_true (by first | (with_reducible assumption) | assumption); obtain ⟨ad231, e231, hx231_0, hx231_1, hx231_2, hx231_3, hx231_4, hx231_5, hx231_6⟩ := at_T55 (Kd.R_reads' HO228.out).2.2 1 p231 q231; obtain rfl : ad230 = ad231 := (by injection e231); (try simp only [show (1 : Int).toNat = 1 from rfl, Nat.reduceMul, Nat.reduceEqDiff, Go.Addr.add, ↓reduceIte] at hx231_0); (try simp only [show (1 : Int).toNat = 1 from rfl, Nat.reduceMul, Nat.reduceEqDiff, Go.Addr.add, ↓reduceIte] at hx231_1); (try simp only [show (1 : Int).toNat = 1 from rfl, Nat.reduceMul, Nat.reduceEqDiff, Go.Addr.add, ↓reduceIte] at hx231_2); (try simp only [show (1 : Int).toNat = 1 from rfl, Nat.reduceMul, Nat.reduceEqDiff, Go.Addr.add, ↓reduceIte] at hx231_3); (try simp only [show (1 : Int).toNat = 1 from rfl, Nat.reduceMul, Nat.reduceEqDiff, Go.Addr.add, ↓reduceIte] at hx231_4); (try simp only [show (1 : Int).toNat = 1 from rfl, Nat.reduceMul, Nat.reduceEqDiff, Go.Addr.add, ↓reduceIte] at hx231_5); (try simp only [show (1 : Int).toNat = 1 from rfl, Nat.reduceMul, Nat.reduceEqDiff, Go.Addr.add, ↓reduceIte] at hx231_6); have qi231 : (1 < t226.length) = True := eq_true (by omega); (try rw [show ((1 : Int)).toNat = 1 from rfl] at hx231_0); (try rw [show 1 * 7 = 7 from rfl] at hx231_0); (try rw [show ((1 : Int)).toNat = 1 from rfl] at hx231_1); (try rw [show 1 * 7 = 7 from rfl] at hx231_1); (try rw [show ((1 : Int)).toNat = 1 from rfl] at hx231_2); (try rw [show 1 * 7 = 7 from rfl] at hx231_2); (try rw [show ((1 : Int)).toNat = 1 from rfl] at hx231_3); (try rw [show 1 * 7 = 7 from rfl] at hx231_3); (try rw [show ((1 : Int)).toNat = 1 from rfl] at hx231_4); (try rw [show 1 * 7 = 7 from rfl] at hx231_4); (try rw [show ((1 : Int)).toNat = 1 from rfl] at hx231_5); (try rw [show 1 * 7 = 7 from rfl] at hx231_5); (try rw [show ((1 : Int)).toNat = 1 from rfl] at hx231_6); (try rw [show 1 * 7 = 7 from rfl] at hx231_6); replace p231 := eq_true p231; replace q231 := eq_true q231) | (go_at_call 39; (with_reducible refine (layer_Lies.calls k ((rd_T55 t226 1).f0.f0) ((rd_T55 t226 1).f0.f1) ((rd_T55 t226 1).f0.f2) ((rd_T55 t226 1).f0.f3) ((rd_T55 t226 1).f1.f0) ((rd_T55 t226 1).f1.f1) ((rd_T55 t226 1).f1.f2) t232 t233 t234 t235 _ A17.out).mono ?_); rintro e w26 ⟨rfl, hb⟩; have n0_ := Za (Kd.R_below (by (with_reducible repeat (first | apply Kd.R_alloc | apply Kd.R_drewN | apply Kd.R_drew)); exact HO228.out) hb); have n1_ := Za (Xl (g := gb225) (o := .cells #[.int .i64 t218, .int .i64 t219, .int .i64 t220, .int .i64 t221, .int .i64 t222, .int .i64 t223, .int .i64 t224] 55 (0, 0)) (bb_8 BK225.out) hb); have n2_ := Za (Xi (hb_8 HB.out) hb); clear HO228; clear BK225; clear HB; have HO228 := n0_; have BK225 := n1_; have HB := n2_; clear n0_ n1_ n2_; (try clear hb); (try clear hb2); (try clear hk); (try clear hi)))
      go_ret
      exact ⟨by first | rfl | (simp [errW_none, errW_some] <;> rfl) | (simp [*, errW_none, errW_some] <;> rfl), by repeat (first | (with_reducible first | exact HB.out | apply below_alloc | apply pw_below_drewN | apply below_drew1 | refine below_set ?_ GE225.out) | exact HB.out)⟩
     ·rw [if_neg c16] at H
      exact absurd H (by simp)
    ·rw [if_neg c15] at H
     have c15b0 : (((rd_T55 t226 0).f0.f0) == 3 && (((rd_T55 t226 0).f0.f1) == 0 && (((rd_T55 t226 0).f0.f2) == 4 && (((rd_T55 t226 0).f0.f3) == 2)))) = Zf := by simpa using c15
     (try (have c15b1 : decide (((rd_T55 t226 0).f0.f0) = 3 && (((rd_T55 t226 0).f0.f1) == 0 && (((rd_T55 t226 0).f0.f2) == 4 && (((rd_T55 t226 0).f0.f3) == 2)))) = Zf := by simpa using c15))
     (try (have c15b2 : (((rd_T55 t226 0).f0.f0) == 3 && (((rd_T55 t226 0).f0.f1) == 0 && (((rd_T55 t226 0).f0.f2) == 4 && (((rd_T55 t226 0).f0.f3) == 2)))) = Zf := by simpa using c15))
     (try (have c15b3 : ¬ (((rd_T55 t226 0).f0.f0) = 3 && (((rd_T55 t226 0).f0.f1) == 0 && (((rd_T55 t226 0).f0.f2) == 4 && (((rd_T55 t226 0).f0.f3) == 2)))) := by simpa using c15))
     clear c15
     obtain rfl := Option.some.inj H
     go_enter Try.func36, Try.ntmps36
     go_wp2_with (first | ((with_reducible refine Xm (f := 38) rfl ?_); refine goesL_ (some 4) rfl rfl Try.func38 (by kernel_rfl) rfl #[.agg #[.int .i64 0, .int .i64 0, .int .i64 4, .int .i64 2]] rfl (by (try simp only [List.map_toArray, List.map_cons, List.map_nil]); first | done | rfl | (simp only [List.length_drop, List.length_take]; rfl)) ?_; (with_reducible refine (layer_Of.calls 0 0 4 2 t211 t212 t213 t214 t215 t216 t217 _ A1.out).mono ?_); rintro e w27 ⟨rfl, hb⟩; refine ⟨_, rfl, ?_⟩; have n0_ := Za (Xi (hb_8 HB.out) hb); clear HB; have HB := n0_; clear n0_; (try clear hb); (try clear hb2); (try clear hk); (try clear hi)) | ((with_reducible refine Xm (f := 37) rfl ?_); refine goesL_ (some 6) rfl rfl Try.func37 (by kernel_rfl) rfl #[.agg #[.int .i64 t211, .int .i64 t212, .int .i64 t213, .int .i64 t214, .int .i64 t215, .int .i64 t216, .int .i64 t217], .agg #[.int .i64 4, .int .i64 4, .int .i64 0]] rfl (by (try simp only [List.map_toArray, List.map_cons, List.map_nil]); first | done | rfl | (simp only [List.length_drop, List.length_take]; rfl)) ?_; (with_reducible refine (layer_Lay.calls k t211 t212 t213 t214 t215 t216 t217 4 4 0 t218 t219 t220 t221 t222 t223 t224 _ A2.out).mono ?_); rintro e w28 ⟨rfl, hb⟩; refine ⟨_, rfl, ?_⟩; have n0_ := Za (Xi (hb_8 HB.out) hb); clear HB; have HB := n0_; clear n0_; (try clear hb); (try clear hb2); (try clear hk); (try clear hi)) | ((with_reducible refine gate_dst (N := 1) rfl ?_); (try (refine gate_guard (by rfl) ?_; dsimp only)); refine box_event ?hg (N := 1) ?hd (cs := #[.int .i64 0, .int .i64 0, .int .i64 0, .int .i64 0, .int .i64 0, .int .i64 0, .int .i64 0]) (t := 55) ?hr ?_; (case hd => rfl); (case hg => rfl); (case hr => first | (go_simp; done) | (go_simp; rfl)); intro gb225 hg w29 hbox hb; have n0_ := Za (Xi (hb_8 HB.out) hb); have n1_ := Za (hbox); have n2_ := Za ((by rw [hg]; exact (Xk (hb_8 HB.out)) : w.heap.size ≤ gb225)); have n3_ := Za ((by rw [hg]; exact (Xk (hb_8 HB.out)) : w.heap.size ≤ gb225)); clear HB; have HB := n0_; have BK225 := n1_; have GW225 := n2_; have GE225 := n3_; clear n0_ n1_ n2_ n3_; clear hb hbox hg; have hcz30_0 : w29.cell? ⟨gb225, 0, none⟩ = some (.int .i64 0) := (Xd BK225.out 0).trans rfl; have hcz30_1 : w29.cell? ⟨gb225, 1, none⟩ = some (.int .i64 0) := (Xd BK225.out 1).trans rfl; have hcz30_2 : w29.cell? ⟨gb225, 2, none⟩ = some (.int .i64 0) := (Xd BK225.out 2).trans rfl; have hcz30_3 : w29.cell? ⟨gb225, 3, none⟩ = some (.int .i64 0) := (Xd BK225.out 3).trans rfl; have hcz30_4 : w29.cell? ⟨gb225, 4, none⟩ = some (.int .i64 0) := (Xd BK225.out 4).trans rfl; have hcz30_5 : w29.cell? ⟨gb225, 5, none⟩ = some (.int .i64 0) := (Xd BK225.out 5).trans rfl; have hcz30_6 : w29.cell? ⟨gb225, 6, none⟩ = some (.int .i64 0) := (Xd BK225.out 6).trans rfl; have hfz30_0 := Xe BK225.out 0; have hfz30_1 := Xe BK225.out 1; have hfz30_2 := Xe BK225.out 2; have hfz30_3 := Xe BK225.out 3; have hfz30_4 := Xe BK225.out 4; have hfz30_5 := Xe BK225.out 5; have hfz30_6 := Xe BK225.out 6) | ((with_reducible refine Xm (f := 44) rfl ?_); refine goesL_ (some 8) rfl rfl Try.func44 (by kernel_rfl) rfl #[.agg #[.int .i64 t218, .int .i64 t219, .int .i64 t220, .int .i64 t221, .int .i64 t222, .int .i64 t223, .int .i64 t224], .bool Zt, .int .i64 1] rfl (by (try simp only [List.map_toArray, List.map_cons, List.map_nil]); first | done | rfl | (simp only [List.length_drop, List.length_take]; rfl)) ?_; (with_reducible refine (layer_Cut.calls k t218 t219 t220 t221 t222 t223 t224 Zt 1 t226 _ A3.out).mono ?_); rintro e w31 ⟨v227, rfl, ho0, hb⟩; refine ⟨_, rfl, ?_⟩; have n0_ := Za (Kd.R_lower (Kd.R_newB ho0 (g := gb225) (o := .cells #[.int .i64 t218, .int .i64 t219, .int .i64 t220, .int .i64 t221, .int .i64 t222, .int .i64 t223, .int .i64 t224] 55 (0, 0)) (by (with_reducible repeat (first | refine Xf ?_ _ | refine Xh ?_ | refine Xg ?_ _)); refine Xj (cs := #[.int .i64 t218, .int .i64 t219, .int .i64 t220, .int .i64 t221, .int .i64 t222, .int .i64 t223, .int .i64 0]) ?_ 6 _ rfl; (with_reducible repeat (first | refine Xf ?_ _ | refine Xh ?_ | refine Xg ?_ _)); refine Xj (cs := #[.int .i64 t218, .int .i64 t219, .int .i64 t220, .int .i64 t221, .int .i64 t222, .int .i64 0, .int .i64 0]) ?_ 5 _ rfl; (with_reducible repeat (first | refine Xf ?_ _ | refine Xh ?_ | refine Xg ?_ _)); refine Xj (cs := #[.int .i64 t218, .int .i64 t219, .int .i64 t220, .int .i64 t221, .int .i64 0, .int .i64 0, .int .i64 0]) ?_ 4 _ rfl; (with_reducible repeat (first | refine Xf ?_ _ | refine Xh ?_ | refine Xg ?_ _)); refine Xj (cs := #[.int .i64 t218, .int .i64 t219, .int .i64 t220, .int .i64 0, .int .i64 0, .int .i64 0, .int .i64 0]) ?_ 3 _ rfl; (with_reducible repeat (first | refine Xf ?_ _ | refine Xh ?_ | refine Xg ?_ _)); refine Xj (cs := #[.int .i64 t218, .int .i64 t219, .int .i64 0, .int .i64 0, .int .i64 0, .int .i64 0, .int .i64 0]) ?_ 2 _ rfl; (with_reducible repeat (first | refine Xf ?_ _ | refine Xh ?_ | refine Xg ?_ _)); refine Xj (cs := #[.int .i64 t218, .int .i64 0, .int .i64 0, .int .i64 0, .int .i64 0, .int .i64 0, .int .i64 0]) ?_ 1 _ rfl; (with_reducible repeat (first | refine Xf ?_ _ | refine Xh ?_ | refine Xg ?_ _)); refine Xj (cs := #[.int .i64 0, .int .i64 0, .int .i64 0, .int .i64 0, .int .i64 0, .int .i64 0, .int .i64 0]) ?_ 0 _ rfl; (with_reducible repeat (first | refine Xf ?_ _ | refine Xh ?_ | refine Xg ?_ _)); exact BK225.out)) (Xk (hb_8 HB.out))); have n1_ := Za (Xl (g := gb225) (o := .cells #[.int .i64 t218, .int .i64 t219, .int .i64 t220, .int .i64 t221, .int .i64 t222, .int .i64 t223, .int .i64 t224] 55 (0, 0)) (by (with_reducible repeat (first | refine Xf ?_ _ | refine Xh ?_ | refine Xg ?_ _)); refine Xj (cs := #[.int .i64 t218, .int .i64 t219, .int .i64 t220, .int .i64 t221, .int .i64 t222, .int .i64 t223, .int .i64 0]) ?_ 6 _ rfl; (with_reducible repeat (first | refine Xf ?_ _ | refine Xh ?_ | refine Xg ?_ _)); refine Xj (cs := #[.int .i64 t218, .int .i64 t219, .int .i64 t220, .int .i64 t221, .int .i64 t222, .int .i64 0, .int .i64 0]) ?_ 5 _ rfl; (with_reducible repeat (first | refine Xf ?_ _ | refine Xh ?_ | refine Xg ?_ _)); refine Xj (cs := #[.int .i64 t218, .int .i64 t219, .int .i64 t220, .int .i64 t221, .int .i64 0, .int .i64 0, .int .i64 0]) ?_ 4 _ rfl; (with_reducible repeat (first | refine Xf ?_ _ | refine Xh ?_ | refine Xg ?_ _)); refine Xj (cs := #[.int .i64 t218, .int .i64 t219, .int .i64 t220, .int .i64 0, .int .i64 0, .int .i64 0, .int .i64 0]) ?_ 3 _ rfl; (with_reducible repeat (first | refine Xf ?_ _ | refine Xh ?_ | refine Xg ?_ _)); refine Xj (cs := #[.int .i64 t218, .int .i64 t219, .int .i64 0, .int .i64 0, .int .i64 0, .int .i64 0, .int .i64 0]) ?_ 2 _ rfl; (with_reducible repeat (first | refine Xf ?_ _ | refine Xh ?_ | refine Xg ?_ _)); refine Xj (cs := #[.int .i64 t218, .int .i64 0, .int .i64 0, .int .i64 0, .int .i64 0, .int .i64 0, .int .i64 0]) ?_ 1 _ rfl; (with_reducible repeat (first | refine Xf ?_ _ | refine Xh ?_ | refine Xg ?_ _)); refine Xj (cs := #[.int .i64 0, .int .i64 0, .int .i64 0, .int .i64 0, .int .i64 0, .int .i64 0, .int .i64 0]) ?_ 0 _ rfl; (with_reducible repeat (first | refine Xf ?_ _ | refine Xh ?_ | refine Xg ?_ _)); exact BK225.out) hb); have n2_ := Za (Xi (hb_8 HB.out) hb); clear BK225; clear HB; have HO228 := n0_; have BK225 := n1_; have HB := n2_; clear n0_ n1_ n2_; (try clear hb); (try clear hb2); (try clear hk); (try clear hi); (try clear ho0); have hcz32_0 : w31.cell? ⟨gb225, 0, none⟩ = some (.int .i64 t218) := (Xd BK225.out 0).trans rfl; have hcz32_1 : w31.cell? ⟨gb225, 1, none⟩ = some (.int .i64 t219) := (Xd BK225.out 1).trans rfl; have hcz32_2 : w31.cell? ⟨gb225, 2, none⟩ = some (.int .i64 t220) := (Xd BK225.out 2).trans rfl; have hcz32_3 : w31.cell? ⟨gb225, 3, none⟩ = some (.int .i64 t221) := (Xd BK225.out 3).trans rfl; have hcz32_4 : w31.cell? ⟨gb225, 4, none⟩ = some (.int .i64 t222) := (Xd BK225.out 4).trans rfl; have hcz32_5 : w31.cell? ⟨gb225, 5, none⟩ = some (.int .i64 t223) := (Xd BK225.out 5).trans rfl; have hcz32_6 : w31.cell? ⟨gb225, 6, none⟩ = some (.int .i64 t224) := (Xd BK225.out 6).trans rfl; have hfz32_0 := Xe BK225.out 0; have hfz32_1 := Xe BK225.out 1; have hfz32_2 := Xe BK225.out 2; have hfz32_3 := Xe BK225.out 3; have hfz32_4 := Xe BK225.out 4; have hfz32_5 := Xe BK225.out 5; have hfz32_6 := Xe BK225.out 6) | ((with_reducible refine Xm (f := 41) rfl ?_); refine goesL_ (some 10) rfl rfl Try.func41 (by kernel_rfl) rfl #[.agg #[.int .i64 t218, .int .i64 t219, .int .i64 t220, .int .i64 t221, .int .i64 t222, .int .i64 t223, .int .i64 t224]] rfl (by (try simp only [List.map_toArray, List.map_cons, List.map_nil]); first | done | rfl | (simp only [List.length_drop, List.length_take]; rfl)) ?_; (with_reducible refine (layer_Up.calls t218 t219 t220 t221 t222 t223 t224 Zf _ A4.out).mono ?_); rintro e w33 ⟨rfl, hb⟩; refine ⟨_, rfl, ?_⟩; have n0_ := Za (Kd.R_below (by (with_reducible repeat (first | apply Kd.R_alloc | apply Kd.R_drewN | apply Kd.R_drew)); exact HO228.out) hb); have n1_ := Za (Xl (g := gb225) (o := .cells #[.int .i64 t218, .int .i64 t219, .int .i64 t220, .int .i64 t221, .int .i64 t222, .int .i64 t223, .int .i64 t224] 55 (0, 0)) (bb_8 BK225.out) hb); have n2_ := Za (Xi (hb_8 HB.out) hb); clear HO228; clear BK225; clear HB; have HO228 := n0_; have BK225 := n1_; have HB := n2_; clear n0_ n1_ n2_; (try clear hb); (try clear hb2); (try clear hk); (try clear hi); obtain ⟨Ao34, co34, eo34⟩ := Kd.R_slice HO228.out; subst eo34; have p230 : 0 ≤ (0 : Int) := (by omega); have q230 : 0 < (t226.length : Int) := of_decide_eq_true (by first | (with_reducible assumption) | assumption); obtain ⟨ad230, e230, hx230_0, hx230_1, hx230_2, hx230_3, hx230_4, hx230_5, hx230_6⟩ := at_T55 (Kd.R_reads' HO228.out).2.2 0 p230 q230; cases e230; have qi230 : (0 < t226.length) = True := eq_true (by omega); (try rw [show ((0 : Int)).toNat = 0 from rfl] at hx230_0); (try rw [show 0 * 7 = 0 from rfl] at hx230_0); (try rw [Addr.add_zero'] at hx230_0); (try rw [show ((0 : Int)).toNat = 0 from rfl] at hx230_1); (try rw [show 0 * 7 = 0 from rfl] at hx230_1); (try rw [Addr.add_zero'] at hx230_1); (try rw [show ((0 : Int)).toNat = 0 from rfl] at hx230_2); (try rw [show 0 * 7 = 0 from rfl] at hx230_2); (try rw [Addr.add_zero'] at hx230_2); (try rw [show ((0 : Int)).toNat = 0 from rfl] at hx230_3); (try rw [show 0 * 7 = 0 from rfl] at hx230_3); (try rw [Addr.add_zero'] at hx230_3); (try rw [show ((0 : Int)).toNat = 0 from rfl] at hx230_4); (try rw [show 0 * 7 = 0 from rfl] at hx230_4); (try rw [Addr.add_zero'] at hx230_4); (try rw [show ((0 : Int)).toNat = 0 from rfl] at hx230_5); (try rw [show 0 * 7 = 0 from rfl] at hx230_5); (try rw [Addr.add_zero'] at hx230_5); (try rw [show ((0 : Int)).toNat = 0 from rfl] at hx230_6); (try rw [show 0 * 7 = 0 from rfl] at hx230_6); (try rw [Addr.add_zero'] at hx230_6); replace p230 := eq_true p230; replace q230 := eq_true q230))
     go_ret
     exact ⟨by first | rfl | (simp [errW_none, errW_some] <;> rfl) | (simp [*, errW_none, errW_some] <;> rfl), by repeat (first | (with_reducible first | exact HB.out | apply below_alloc | apply pw_below_drewN | apply below_drew1 | refine below_set ?_ GE225.out) | exact HB.out)⟩
   ·rw [if_neg c14] at H
    exact absurd H (by simp)
  ·rw [if_neg c13] at H
   have c13b0 : ((t226.length : Int) == 2) = Zf := beq_eq_false_iff_ne.mpr c13
   have c13b1 : ((t226.length : Int) != 2) = Zt := bne_iff_ne.mpr c13
   obtain rfl := Option.some.inj H
   go_enter Try.func36, Try.ntmps36
   go_wp2_with (first | ((with_reducible refine Xm (f := 38) rfl ?_); refine goesL_ (some 4) rfl rfl Try.func38 (by kernel_rfl) rfl #[.agg #[.int .i64 0, .int .i64 0, .int .i64 4, .int .i64 2]] rfl (by (try simp only [List.map_toArray, List.map_cons, List.map_nil]); first | done | rfl | (simp only [List.length_drop, List.length_take]; rfl)) ?_; (with_reducible refine (layer_Of.calls 0 0 4 2 t211 t212 t213 t214 t215 t216 t217 _ A1.out).mono ?_); rintro e w35 ⟨rfl, hb⟩; refine ⟨_, rfl, ?_⟩; have n0_ := Za (Xi (hb_8 HB.out) hb); clear HB; have HB := n0_; clear n0_; (try clear hb); (try clear hb2); (try clear hk); (try clear hi)) | ((with_reducible refine Xm (f := 37) rfl ?_); refine goesL_ (some 6) rfl rfl Try.func37 (by kernel_rfl) rfl #[.agg #[.int .i64 t211, .int .i64 t212, .int .i64 t213, .int .i64 t214, .int .i64 t215, .int .i64 t216, .int .i64 t217], .agg #[.int .i64 4, .int .i64 4, .int .i64 0]] rfl (by (try simp only [List.map_toArray, List.map_cons, List.map_nil]); first | done | rfl | (simp only [List.length_drop, List.length_take]; rfl)) ?_; (with_reducible refine (layer_Lay.calls k t211 t212 t213 t214 t215 t216 t217 4 4 0 t218 t219 t220 t221 t222 t223 t224 _ A2.out).mono ?_); rintro e w36 ⟨rfl, hb⟩; refine ⟨_, rfl, ?_⟩; have n0_ := Za (Xi (hb_8 HB.out) hb); clear HB; have HB := n0_; clear n0_; (try clear hb); (try clear hb2); (try clear hk); (try clear hi)) | ((with_reducible refine gate_dst (N := 1) rfl ?_); (try (refine gate_guard (by rfl) ?_; dsimp only)); refine box_event ?hg (N := 1) ?hd (cs := #[.int .i64 0, .int .i64 0, .int .i64 0, .int .i64 0, .int .i64 0, .int .i64 0, .int .i64 0]) (t := 55) ?hr ?_; (case hd => rfl); (case hg => rfl); (case hr => first | (go_simp; done) | (go_simp; rfl)); intro gb225 hg w37 hbox hb; have n0_ := Za (Xi (hb_8 HB.out) hb); have n1_ := Za (hbox); have n2_ := Za ((by rw [hg]; exact (Xk (hb_8 HB.out)) : w.heap.size ≤ gb225)); have n3_ := Za ((by rw [hg]; exact (Xk (hb_8 HB.out)) : w.heap.size ≤ gb225)); clear HB; have HB := n0_; have BK225 := n1_; have GW225 := n2_; have GE225 := n3_; clear n0_ n1_ n2_ n3_; clear hb hbox hg; have hcz38_0 : w37.cell? ⟨gb225, 0, none⟩ = some (.int .i64 0) := (Xd BK225.out 0).trans rfl; have hcz38_1 : w37.cell? ⟨gb225, 1, none⟩ = some (.int .i64 0) := (Xd BK225.out 1).trans rfl; have hcz38_2 : w37.cell? ⟨gb225, 2, none⟩ = some (.int .i64 0) := (Xd BK225.out 2).trans rfl; have hcz38_3 : w37.cell? ⟨gb225, 3, none⟩ = some (.int .i64 0) := (Xd BK225.out 3).trans rfl; have hcz38_4 : w37.cell? ⟨gb225, 4, none⟩ = some (.int .i64 0) := (Xd BK225.out 4).trans rfl; have hcz38_5 : w37.cell? ⟨gb225, 5, none⟩ = some (.int .i64 0) := (Xd BK225.out 5).trans rfl; have hcz38_6 : w37.cell? ⟨gb225, 6, none⟩ = some (.int .i64 0) := (Xd BK225.out 6).trans rfl; have hfz38_0 := Xe BK225.out 0; have hfz38_1 := Xe BK225.out 1; have hfz38_2 := Xe BK225.out 2; have hfz38_3 := Xe BK225.out 3; have hfz38_4 := Xe BK225.out 4; have hfz38_5 := Xe BK225.out 5; have hfz38_6 := Xe BK225.out 6) | ((with_reducible refine Xm (f := 44) rfl ?_); refine goesL_ (some 8) rfl rfl Try.func44 (by kernel_rfl) rfl #[.agg #[.int .i64 t218, .int .i64 t219, .int .i64 t220, .int .i64 t221, .int .i64 t222, .int .i64 t223, .int .i64 t224], .bool Zt, .int .i64 1] rfl (by (try simp only [List.map_toArray, List.map_cons, List.map_nil]); first | done | rfl | (simp only [List.length_drop, List.length_take]; rfl)) ?_; (with_reducible refine (layer_Cut.calls k t218 t219 t220 t221 t222 t223 t224 Zt 1 t226 _ A3.out).mono ?_); rintro e w39 ⟨v227, rfl, ho0, hb⟩; refine ⟨_, rfl, ?_⟩; have n0_ := Za (Kd.R_lower (Kd.R_newB ho0 (g := gb225) (o := .cells #[.int .i64 t218, .int .i64 t219, .int .i64 t220, .int .i64 t221, .int .i64 t222, .int .i64 t223, .int .i64 t224] 55 (0, 0)) (by (with_reducible repeat (first | refine Xf ?_ _ | refine Xh ?_ | refine Xg ?_ _)); refine Xj (cs := #[.int .i64 t218, .int .i64 t219, .int .i64 t220, .int .i64 t221, .int .i64 t222, .int .i64 t223, .int .i64 0]) ?_ 6 _ rfl; (with_reducible repeat (first | refine Xf ?_ _ | refine Xh ?_ | refine Xg ?_ _)); refine Xj (cs := #[.int .i64 t218, .int .i64 t219, .int .i64 t220, .int .i64 t221, .int .i64 t222, .int .i64 0, .int .i64 0]) ?_ 5 _ rfl; (with_reducible repeat (first | refine Xf ?_ _ | refine Xh ?_ | refine Xg ?_ _)); refine Xj (cs := #[.int .i64 t218, .int .i64 t219, .int .i64 t220, .int .i64 t221, .int .i64 0, .int .i64 0, .int .i64 0]) ?_ 4 _ rfl; (with_reducible repeat (first | refine Xf ?_ _ | refine Xh ?_ | refine Xg ?_ _)); refine Xj (cs := #[.int .i64 t218, .int .i64 t219, .int .i64 t220, .int .i64 0, .int .i64 0, .int .i64 0, .int .i64 0]) ?_ 3 _ rfl; (with_reducible repeat (first | refine Xf ?_ _ | refine Xh ?_ | refine Xg ?_ _)); refine Xj (cs := #[.int .i64 t218, .int .i64 t219, .int .i64 0, .int .i64 0, .int .i64 0, .int .i64 0, .int .i64 0]) ?_ 2 _ rfl; (with_reducible repeat (first | refine Xf ?_ _ | refine Xh ?_ | refine Xg ?_ _)); refine Xj (cs := #[.int .i64 t218, .int .i64 0, .int .i64 0, .int .i64 0, .int .i64 0, .int .i64 0, .int .i64 0]) ?_ 1 _ rfl; (with_reducible repeat (first | refine Xf ?_ _ | refine Xh ?_ | refine Xg ?_ _)); refine Xj (cs := #[.int .i64 0, .int .i64 0, .int .i64 0, .int .i64 0, .int .i64 0, .int .i64 0, .int .i64 0]) ?_ 0 _ rfl; (with_reducible repeat (first | refine Xf ?_ _ | refine Xh ?_ | refine Xg ?_ _)); exact BK225.out)) (Xk (hb_8 HB.out))); have n1_ := Za (Xl (g := gb225) (o := .cells #[.int .i64 t218, .int .i64 t219, .int .i64 t220, .int .i64 t221, .int .i64 t222, .int .i64 t223, .int .i64 t224] 55 (0, 0)) (by (with_reducible repeat (first | refine Xf ?_ _ | refine Xh ?_ | refine Xg ?_ _)); refine Xj (cs := #[.int .i64 t218, .int .i64 t219, .int .i64 t220, .int .i64 t221, .int .i64 t222, .int .i64 t223, .int .i64 0]) ?_ 6 _ rfl; (with_reducible repeat (first | refine Xf ?_ _ | refine Xh ?_ | refine Xg ?_ _)); refine Xj (cs := #[.int .i64 t218, .int .i64 t219, .int .i64 t220, .int .i64 t221, .int .i64 t222, .int .i64 0, .int .i64 0]) ?_ 5 _ rfl; (with_reducible repeat (first | refine Xf ?_ _ | refine Xh ?_ | refine Xg ?_ _)); refine Xj (cs := #[.int .i64 t218, .int .i64 t219, .int .i64 t220, .int .i64 t221, .int .i64 0, .int .i64 0, .int .i64 0]) ?_ 4 _ rfl; (with_reducible repeat (first | refine Xf ?_ _ | refine Xh ?_ | refine Xg ?_ _)); refine Xj (cs := #[.int .i64 t218, .int .i64 t219, .int .i64 t220, .int .i64 0, .int .i64 0, .int .i64 0, .int .i64 0]) ?_ 3 _ rfl; (with_reducible repeat (first | refine Xf ?_ _ | refine Xh ?_ | refine Xg ?_ _)); refine Xj (cs := #[.int .i64 t218, .int .i64 t219, .int .i64 0, .int .i64 0, .int .i64 0, .int .i64 0, .int .i64 0]) ?_ 2 _ rfl; (with_reducible repeat (first | refine Xf ?_ _ | refine Xh ?_ | refine Xg ?_ _)); refine Xj (cs := #[.int .i64 t218, .int .i64 0, .int .i64 0, .int .i64 0, .int .i64 0, .int .i64 0, .int .i64 0]) ?_ 1 _ rfl; (with_reducible repeat (first | refine Xf ?_ _ | refine Xh ?_ | refine Xg ?_ _)); refine Xj (cs := #[.int .i64 0, .int .i64 0, .int .i64 0, .int .i64 0, .int .i64 0, .int .i64 0, .int .i64 0]) ?_ 0 _ rfl; (with_reducible repeat (first | refine Xf ?_ _ | refine Xh ?_ | refine Xg ?_ _)); exact BK225.out) hb); have n2_ := Za (Xi (hb_8 HB.out) hb); clear BK225; clear HB; have HO228 := n0_; have BK225 := n1_; have HB := n2_; clear n0_ n1_ n2_; (try clear hb); (try clear hb2); (try clear hk); (try clear hi); (try clear ho0); have hcz40_0 : w39.cell? ⟨gb225, 0, none⟩ = some (.int .i64 t218) := (Xd BK225.out 0).trans rfl; have hcz40_1 : w39.cell? ⟨gb225, 1, none⟩ = some (.int .i64 t219) := (Xd BK225.out 1).trans rfl; have hcz40_2 : w39.cell? ⟨gb225, 2, none⟩ = some (.int .i64 t220) := (Xd BK225.out 2).trans rfl; have hcz40_3 : w39.cell? ⟨gb225, 3, none⟩ = some (.int .i64 t221) := (Xd BK225.out 3).trans rfl; have hcz40_4 : w39.cell? ⟨gb225, 4, none⟩ = some (.int .i64 t222) := (Xd BK225.out 4).trans rfl; have hcz40_5 : w39.cell? ⟨gb225, 5, none⟩ = some (.int .i64 t223) := (Xd BK225.out 5).trans rfl; have hcz40_6 : w39.cell? ⟨gb225, 6, none⟩ = some (.int .i64 t224) := (Xd BK225.out 6).trans rfl; have hfz40_0 := Xe BK225.out 0; have hfz40_1 := Xe BK225.out 1; have hfz40_2 := Xe BK225.out 2; have hfz40_3 := Xe BK225.out 3; have hfz40_4 := Xe BK225.out 4; have hfz40_5 := Xe BK225.out 5; have hfz40_6 := Xe BK225.out 6) | ((with_reducible refine Xm (f := 41) rfl ?_); refine goesL_ (some 10) rfl rfl Try.func41 (by kernel_rfl) rfl #[.agg #[.int .i64 t218, .int .i64 t219, .int .i64 t220, .int .i64 t221, .int .i64 t222, .int .i64 t223, .int .i64 t224]] rfl (by (try simp only [List.map_toArray, List.map_cons, List.map_nil]); first | done | rfl | (simp only [List.length_drop, List.length_take]; rfl)) ?_; (with_reducible refine (layer_Up.calls t218 t219 t220 t221 t222 t223 t224 Zf _ A4.out).mono ?_); rintro e w41 ⟨rfl, hb⟩; refine ⟨_, rfl, ?_⟩; have n0_ := Za (Kd.R_below (by (with_reducible repeat (first | apply Kd.R_alloc | apply Kd.R_drewN | apply Kd.R_drew)); exact HO228.out) hb); have n1_ := Za (Xl (g := gb225) (o := .cells #[.int .i64 t218, .int .i64 t219, .int .i64 t220, .int .i64 t221, .int .i64 t222, .int .i64 t223, .int .i64 t224] 55 (0, 0)) (bb_8 BK225.out) hb); have n2_ := Za (Xi (hb_8 HB.out) hb); clear HO228; clear BK225; clear HB; have HO228 := n0_; have BK225 := n1_; have HB := n2_; clear n0_ n1_ n2_; (try clear hb); (try clear hb2); (try clear hk); (try clear hi); obtain ⟨Ao42, co42, eo42⟩ := Kd.R_slice HO228.out; subst eo42))
   go_ret
   exact ⟨by first | rfl | (simp [errW_none, errW_some] <;> rfl) | (simp [*, errW_none, errW_some] <;> rfl), by repeat (first | (with_reducible first | exact HB.out | apply below_alloc | apply pw_below_drewN | apply below_drew1 | refine below_set ?_ GE225.out) | exact HB.out)⟩

/-! ### gatherumref03_Do: function 70 -/
def gatherumref03_Do.f (a0_0 : Int) (a0_1 : Int) (a0_2 : Int) (a0_3 : Int) (a1 : Int) (a2 : Int) : Option (Int × Int) := some (wrap64 ((wrap64 (a0_0 * a1)) + (wrap64 (a0_2 * a2))), wrap64 ((wrap64 (a0_1 * a1)) + (wrap64 (a0_3 * a2))))
set_option maxHeartbeats 8000000 in
set_option maxRecDepth 100000 in
theorem gatherumref03_Do.calls (a0_0 : Int) (a0_1 : Int) (a0_2 : Int) (a0_3 : Int) (a1 : Int) (a2 : Int) (r1 : Int) (r2 : Int) (w : World) (h : gatherumref03_Do.f a0_0 a0_1 a0_2 a0_3 a1 a2 = some (r1, r2)) :
  Calls Try.prog 70 #[.agg #[.int .i64 a0_0, .int .i64 a0_1, .int .i64 a0_2, .int .i64 a0_3], .int .i64 a1, .int .i64 a2] w fun e w' => e = .returned (.tuple #[.int .i64 r1, .int .i64 r2]) ∧ Below w.heap.size w w' := by
 have hu96 := Try.underlying96
 have HB := Za (Below.refl w.heap.size w)
 have H : (some (wrap64 ((wrap64 (a0_0 * a1)) + (wrap64 (a0_2 * a2))), wrap64 ((wrap64 (a0_1 * a1)) + (wrap64 (a0_3 * a2))))) = some (r1, r2) := h
 clear h
 simp only [Option.some.injEq, Prod.mk.injEq] at H
 obtain ⟨rfl, rfl⟩ := H
 go_enter Try.func70, Try.ntmps70
 go_wp2_with (first | ((with_reducible refine gate_dst (N := 3) rfl ?_); refine box_event ?hg (N := 3) ?hd (cs := #[.int .i64 a0_0, .int .i64 a0_1, .int .i64 a0_2, .int .i64 a0_3]) (t := 96) ?hr ?_; (case hd => rfl); (case hg => rfl); (case hr => first | (go_simp; done) | (go_simp; rfl)); intro gb236 hg w4 hbox hb; have n0_ := Za (Xi (hb_8 HB.out) hb); have n1_ := Za (hbox); have n2_ := Za ((by rw [hg]; exact (Xk (hb_8 HB.out)) : w.heap.size ≤ gb236)); have n3_ := Za ((by rw [hg]; exact (Xk (hb_8 HB.out)) : w.heap.size ≤ gb236)); clear HB; have HB := n0_; have BK236 := n1_; have GW236 := n2_; have GE236 := n3_; clear n0_ n1_ n2_ n3_; clear hb hbox hg; have hcz5_0 : w4.cell? ⟨gb236, 0, none⟩ = some (.int .i64 a0_0) := (Xd BK236.out 0).trans rfl; have hcz5_1 : w4.cell? ⟨gb236, 1, none⟩ = some (.int .i64 a0_1) := (Xd BK236.out 1).trans rfl; have hcz5_2 : w4.cell? ⟨gb236, 2, none⟩ = some (.int .i64 a0_2) := (Xd BK236.out 2).trans rfl; have hcz5_3 : w4.cell? ⟨gb236, 3, none⟩ = some (.int .i64 a0_3) := (Xd BK236.out 3).trans rfl; have hfz5_0 := Xe BK236.out 0; have hfz5_1 := Xe BK236.out 1; have hfz5_2 := Xe BK236.out 2; have hfz5_3 := Xe BK236.out 3))
 repeat (go_quiet (first | ((with_reducible refine gate_dst (N := 3) rfl ?_); refine box_event ?hg (N := 3) ?hd (cs := #[.int .i64 a0_0, .int .i64 a0_1, .int .i64 a0_2, .int .i64 a0_3]) (t := 96) ?hr ?_; (case hd => rfl); (case hg => rfl); (case hr => first | (go_simp; done) | (go_simp; rfl)); intro gb236 hg w4 hbox hb; have n0_ := Za (Xi (hb_8 HB.out) hb); have n1_ := Za (hbox); have n2_ := Za ((by rw [hg]; exact (Xk (hb_8 HB.out)) : w.heap.size ≤ gb236)); have n3_ := Za ((by rw [hg]; exact (Xk (hb_8 HB.out)) : w.heap.size ≤ gb236)); clear HB; have HB := n0_; have BK236 := n1_; have GW236 := n2_; have GE236 := n3_; clear n0_ n1_ n2_ n3_; clear hb hbox hg; have hcz5_0 : w4.cell? ⟨gb236, 0, none⟩ = some (.int .i64 a0_0) := (Xd BK236.out 0).trans rfl; have hcz5_1 : w4.cell? ⟨gb236, 1, none⟩ = some (.int .i64 a0_1) := (Xd BK236.out 1).trans rfl; have hcz5_2 : w4.cell? ⟨gb236, 2, none⟩ = some (.int .i64 a0_2) := (Xd BK236.out 2).trans rfl; have hcz5_3 : w4.cell? ⟨gb236, 3, none⟩ = some (.int .i64 a0_3) := (Xd BK236.out 3).trans rfl; have hfz5_0 := Xe BK236.out 0; have hfz5_1 := Xe BK236.out 1; have hfz5_2 := Xe BK236.out 2; have hfz5_3 := Xe BK236.out 3)); try go_wp2_with (first | ((with_reducible refine gate_dst (N := 3) rfl ?_); refine box_event ?hg (N := 3) ?hd (cs := #[.int .i64 a0_0, .int .i64 a0_1, .int .i64 a0_2, .int .i64 a0_3]) (t := 96) ?hr ?_; (case hd => rfl); (case hg => rfl); (case hr => first | (go_simp; done) | (go_simp; rfl)); intro gb236 hg w4 hbox hb; have n0_ := Za (Xi (hb_8 HB.out) hb); have n1_ := Za (hbox); have n2_ := Za ((by rw [hg]; exact (Xk (hb_8 HB.out)) : w.heap.size ≤ gb236)); have n3_ := Za ((by rw [hg]; exact (Xk (hb_8 HB.out)) : w.heap.size ≤ gb236)); clear HB; have HB := n0_; have BK236 := n1_; have GW236 := n2_; have GE236 := n3_; clear n0_ n1_ n2_ n3_; clear hb hbox hg; have hcz5_0 : w4.cell? ⟨gb236, 0, none⟩ = some (.int .i64 a0_0) := (Xd BK236.out 0).trans rfl; have hcz5_1 : w4.cell? ⟨gb236, 1, none⟩ = some (.int .i64 a0_1) := (Xd BK236.out 1).trans rfl; have hcz5_2 : w4.cell? ⟨gb236, 2, none⟩ = some (.int .i64 a0_2) := (Xd BK236.out 2).trans rfl; have hcz5_3 : w4.cell? ⟨gb236, 3, none⟩ = some (.int .i64 a0_3) := (Xd BK236.out 3).trans rfl; have hfz5_0 := Xe BK236.out 0; have hfz5_1 := Xe BK236.out 1; have hfz5_2 := Xe BK236.out 2; have hfz5_3 := Xe BK236.out 3)))
 go_ret2
 exact ⟨by first | rfl | (simp [errW_none, errW_some] <;> rfl) | (simp [*, errW_none, errW_some] <;> rfl), by repeat (first | (with_reducible first | exact HB.out | apply below_alloc | apply pw_below_drewN | apply below_drew1 | refine below_set ?_ GE236.out) | exact HB.out)⟩

end Go.Proofs.Ythgmjhidigoneaa.PLayerKeeps
