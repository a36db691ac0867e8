import Derived.Test.YthgmjhidigoneaaPLayerKeepsx0
import Derived.Test.YthgmjhidigoneaaPLayerKeepsx3
import Derived.Test.YthgmjhidigoneaaPLayerKeepsx8
import Derived.Test.YthgmjhidigoneaaPLayerKeepsx9
namespace Go.Proofs.Ythgmjhidigoneaa.PLayerKeeps
open Go.RowKit Go.Proofs.YthgmjhidigoneaaW.PrintWords Go.Proofs.YthgmjhidigoneaaW.PrintLast Go.Proofs.YthgmjhidigoneaaW.PrintMore
open Bool renaming false → Zf
open Go.Proofs.YthgmjhidigoneaaW.PrintWords.Aside0 renaming mk → Za
open List renaming setIfInBounds_toArray → Xa
open Go.Proofs.YthgmjhidigoneaaW.PrintWords renaming blk_frozen → Xd, blk_cell → Xe, blk_below → Xf, blk_drewN → Xg, blk_alloc → Xh
attribute [local go_sem] max2_int min2_int max_two min_two max_three min_three max_four min_four   -- for this text's walks alone
set_option linter.unusedVariables false
set_option linter.unusedSimpArgs false
theorem bb_14 {p q : Prop} (h : q) (f : q → p := by intro h_; (with_reducible repeat (first | refine blk_drewN ?_ _ | refine blk_drew ?_ | refine blk_alloc ?_ _)); exact h_) : p := f h
theorem hb_14 {B : Nat} {w W W1 : World} (h : Below B w W) (f : Below B w W → Below B w W1 := by intro h_; repeat (first | (with_reducible first | exact h_ | apply below_alloc | apply pw_below_drewN | apply below_drew1 | refine below_set ?_ (Aside0.out (by assumption))) | exact h_)) : Below B w W1 := f h

attribute [local go_sem high] eqA96
/-! ### gatherumref03_Then: function 82 -/
def gatherumref03_Then.f (a0_0 : Int) (a0_1 : Int) (a0_2 : Int) (a0_3 : Int) (a1_0 : Int) (a1_1 : Int) (a1_2 : Int) (a1_3 : Int) : Option (Int × Int × Int × Int) := (gatherumref03_Do.f a1_0 a1_1 a1_2 a1_3 a0_0 a0_1).bind fun bt319 => ((gatherumref03_Do.f a1_0 a1_1 a1_2 a1_3 a0_2 a0_3).bind fun bt321 => (some (bt319.1, bt319.2, bt321.1, bt321.2)))
set_option maxHeartbeats 8000000 in
set_option maxRecDepth 100000 in
theorem gatherumref03_Then.calls (a0_0 : Int) (a0_1 : Int) (a0_2 : Int) (a0_3 : Int) (a1_0 : Int) (a1_1 : Int) (a1_2 : Int) (a1_3 : Int) (r1 : Int) (r2 : Int) (r3 : Int) (r4 : Int) (w : World) (h : gatherumref03_Then.f a0_0 a0_1 a0_2 a0_3 a1_0 a1_1 a1_2 a1_3 = some (r1, r2, r3, r4)) :
  Calls Try.prog 82 #[.agg #[.int .i64 a0_0, .int .i64 a0_1, .int .i64 a0_2, .int .i64 a0_3], .agg #[.int .i64 a1_0, .int .i64 a1_1, .int .i64 a1_2, .int .i64 a1_3]] w fun e w' => e = .returned (.agg #[.int .i64 r1, .int .i64 r2, .int .i64 r3, .int .i64 r4]) ∧ Below w.heap.size w w' := by
 have hu96 := Try.underlying96
 have HB := Za (Below.refl w.heap.size w)
 have H : ((gatherumref03_Do.f a1_0 a1_1 a1_2 a1_3 a0_0 a0_1).bind fun bt319 => ((gatherumref03_Do.f a1_0 a1_1 a1_2 a1_3 a0_2 a0_3).bind fun bt321 => (some (bt319.1, bt319.2, bt321.1, bt321.2)))) = some (r1, r2, r3, r4) := h
 clear h
 replace H := Option.bind_eq_some_iff.mp H
 obtain ⟨⟨t319, t320⟩, A30, H⟩ := H
 replace H : ((gatherumref03_Do.f a1_0 a1_1 a1_2 a1_3 a0_2 a0_3).bind fun bt321 => (some (t319, t320, bt321.1, bt321.2))) = some (r1, r2, r3, r4) := H
 have A3 := Za A30
 clear A30
 replace H := Option.bind_eq_some_iff.mp H
 obtain ⟨⟨t321, t322⟩, A40, H⟩ := H
 replace H : (some (t319, t320, t321, t322)) = some (r1, r2, r3, r4) := H
 have A4 := Za A40
 clear A40
 simp only [Option.some.injEq, Prod.mk.injEq] at H
 obtain ⟨rfl, rfl, rfl, rfl⟩ := H
 go_enter Try.func82, Try.ntmps82
 go_wp2_with (first | ((with_reducible refine gate_dst (N := 2) rfl ?_); refine box_event ?hg (N := 2) ?hd (cs := #[.int .i64 a0_0, .int .i64 a0_1, .int .i64 a0_2, .int .i64 a0_3]) (t := 96) ?hr ?_; (case hd => rfl); (case hg => rfl); (case hr => first | (go_simp; done) | (go_simp; rfl)); intro gb315 hg w5 hbox hb; have n0_ := Za (below_step (hb_14 HB.out) hb); have n1_ := Za (hbox); have n2_ := Za ((by rw [hg]; exact (below_size (hb_14 HB.out)) : w.heap.size ≤ gb315)); have n3_ := Za ((by rw [hg]; exact (below_size (hb_14 HB.out)) : w.heap.size ≤ gb315)); clear HB; have HB := n0_; have BK315 := n1_; have GW315 := n2_; have GE315 := n3_; clear n0_ n1_ n2_ n3_; clear hb hbox hg) | ((with_reducible refine gate_dst (N := 3) rfl ?_); refine box_event ?hg (N := 3) ?hd (cs := #[.int .i64 a1_0, .int .i64 a1_1, .int .i64 a1_2, .int .i64 a1_3]) (t := 96) ?hr ?_; (case hd => rfl); (case hg => rfl); (case hr => first | (go_simp; done) | (go_simp; rfl)); intro gb316 hg w6 hbox hb; have n0_ := Za (Xf (g := gb315) (o := .cells #[.int .i64 a0_0, .int .i64 a0_1, .int .i64 a0_2, .int .i64 a0_3] 96 (0, 0)) (bb_14 BK315.out) hb); have n1_ := Za (below_step (hb_14 HB.out) hb); have n2_ := Za (hbox); have n3_ := Za ((by rw [hg]; exact (below_size (hb_14 HB.out)) : w.heap.size ≤ gb316)); have n4_ := Za ((by rw [hg]; exact (below_size (hb_14 HB.out)) : w.heap.size ≤ gb316)); have n5_ := Za ((by rw [hg]; exact Nat.ne_of_lt (blk_lt (g := gb315) (o := .cells #[.int .i64 a0_0, .int .i64 a0_1, .int .i64 a0_2, .int .i64 a0_3] 96 (0, 0)) (bb_14 BK315.out)) : gb315 ≠ gb316)); have n6_ := Za ((by rw [hg]; exact Nat.ne_of_gt (blk_lt (g := gb315) (o := .cells #[.int .i64 a0_0, .int .i64 a0_1, .int .i64 a0_2, .int .i64 a0_3] 96 (0, 0)) (bb_14 BK315.out)) : gb316 ≠ gb315)); clear BK315; clear HB; have BK315 := n0_; have HB := n1_; have BK316 := n2_; have GW316 := n3_; have GE316 := n4_; have NB315_316 := n5_; have NB316_315 := n6_; clear n0_ n1_ n2_ n3_ n4_ n5_ n6_; clear hb hbox hg) | ((with_reducible refine gate_dst (N := 4) rfl ?_); refine box_event ?hg (N := 4) ?hd (cs := #[.int .i64 0, .int .i64 0, .int .i64 0, .int .i64 0]) (t := 96) ?hr ?_; (case hd => rfl); (case hg => rfl); (case hr => first | (go_simp; done) | (go_simp; rfl)); intro gb317 hg w7 hbox hb; have n0_ := Za (Xf (g := gb315) (o := .cells #[.int .i64 a0_0, .int .i64 a0_1, .int .i64 a0_2, .int .i64 a0_3] 96 (0, 0)) (bb_14 BK315.out) hb); have n1_ := Za (Xf (g := gb316) (o := .cells #[.int .i64 a1_0, .int .i64 a1_1, .int .i64 a1_2, .int .i64 a1_3] 96 (0, 0)) (bb_14 BK316.out) hb); have n2_ := Za (below_step (hb_14 HB.out) hb); have n3_ := Za (hbox); have n4_ := Za ((by rw [hg]; exact (below_size (hb_14 HB.out)) : w.heap.size ≤ gb317)); have n5_ := Za ((by rw [hg]; exact (below_size (hb_14 HB.out)) : w.heap.size ≤ gb317)); have n6_ := Za ((by rw [hg]; exact Nat.ne_of_lt (blk_lt (g := gb315) (o := .cells #[.int .i64 a0_0, .int .i64 a0_1, .int .i64 a0_2, .int .i64 a0_3] 96 (0, 0)) (bb_14 BK315.out)) : gb315 ≠ gb317)); have n7_ := Za ((by rw [hg]; exact Nat.ne_of_gt (blk_lt (g := gb315) (o := .cells #[.int .i64 a0_0, .int .i64 a0_1, .int .i64 a0_2, .int .i64 a0_3] 96 (0, 0)) (bb_14 BK315.out)) : gb317 ≠ gb315)); have n8_ := Za ((by rw [hg]; exact Nat.ne_of_lt (blk_lt (g := gb316) (o := .cells #[.int .i64 a1_0, .int .i64 a1_1, .int .i64 a1_2, .int .i64 a1_3] 96 (0, 0)) (bb_14 BK316.out)) : gb316 ≠ gb317)); have n9_ := Za ((by rw [hg]; exact Nat.ne_of_gt (blk_lt (g := gb316) (o := .cells #[.int .i64 a1_0, .int .i64 a1_1, .int .i64 a1_2, .int .i64 a1_3] 96 (0, 0)) (bb_14 BK316.out)) : gb317 ≠ gb316)); clear BK315; clear BK316; clear HB; have BK315 := n0_; have BK316 := n1_; have HB := n2_; have BK317 := n3_; have GW317 := n4_; have GE317 := n5_; have NB315_317 := n6_; have NB317_315 := n7_; have NB316_317 := n8_; have NB317_316 := n9_; clear n0_ n1_ n2_ n3_ n4_ n5_ n6_ n7_ n8_ n9_; clear hb hbox hg) | ((with_reducible refine gate_dst (N := 5) rfl ?_); refine box_event ?hg (N := 5) ?hd (cs := #[.int .i64 0, .int .i64 0, .int .i64 0, .int .i64 0]) (t := 96) ?hr ?_; (case hd => rfl); (case hg => rfl); (case hr => first | (go_simp; done) | (go_simp; rfl)); intro gb318 hg w8 hbox hb; have n0_ := Za (Xf (g := gb315) (o := .cells #[.int .i64 a0_0, .int .i64 a0_1, .int .i64 a0_2, .int .i64 a0_3] 96 (0, 0)) (bb_14 BK315.out) hb); have n1_ := Za (Xf (g := gb316) (o := .cells #[.int .i64 a1_0, .int .i64 a1_1, .int .i64 a1_2, .int .i64 a1_3] 96 (0, 0)) (bb_14 BK316.out) hb); have n2_ := Za (Xf (g := gb317) (o := .cells #[.int .i64 0, .int .i64 0, .int .i64 0, .int .i64 0] 96 (0, 0)) (bb_14 BK317.out) hb); have n3_ := Za (below_step (hb_14 HB.out) hb); have n4_ := Za (hbox); have n5_ := Za ((by rw [hg]; exact (below_size (hb_14 HB.out)) : w.heap.size ≤ gb318)); have n6_ := Za ((by rw [hg]; exact (below_size (hb_14 HB.out)) : w.heap.size ≤ gb318)); have n7_ := Za ((by rw [hg]; exact Nat.ne_of_lt (blk_lt (g := gb315) (o := .cells #[.int .i64 a0_0, .int .i64 a0_1, .int .i64 a0_2, .int .i64 a0_3] 96 (0, 0)) (bb_14 BK315.out)) : gb315 ≠ gb318)); have n8_ := Za ((by rw [hg]; exact Nat.ne_of_gt (blk_lt (g := gb315) (o := .cells #[.int .i64 a0_0, .int .i64 a0_1, .int .i64 a0_2, .int .i64 a0_3] 96 (0, 0)) (bb_14 BK315.out)) : gb318 ≠ gb315)); have n9_ := Za ((by rw [hg]; exact Nat.ne_of_lt (blk_lt (g := gb316) (o := .cells #[.int .i64 a1_0, .int .i64 a1_1, .int .i64 a1_2, .int .i64 a1_3] 96 (0, 0)) (bb_14 BK316.out)) : gb316 ≠ gb318)); have n10_ := Za ((by rw [hg]; exact Nat.ne_of_gt (blk_lt (g := gb316) (o := .cells #[.int .i64 a1_0, .int .i64 a1_1, .int .i64 a1_2, .int .i64 a1_3] 96 (0, 0)) (bb_14 BK316.out)) : gb318 ≠ gb316)); have n11_ := Za ((by rw [hg]; exact Nat.ne_of_lt (blk_lt (g := gb317) (o := .cells #[.int .i64 0, .int .i64 0, .int .i64 0, .int .i64 0] 96 (0, 0)) (bb_14 BK317.out)) : gb317 ≠ gb318)); have n12_ := Za ((by rw [hg]; exact Nat.ne_of_gt (blk_lt (g := gb317) (o := .cells #[.int .i64 0, .int .i64 0, .int .i64 0, .int .i64 0] 96 (0, 0)) (bb_14 BK317.out)) : gb318 ≠ gb317)); clear BK315; clear BK316; clear BK317; clear HB; have BK315 := n0_; have BK316 := n1_; have BK317 := n2_; have HB := n3_; have BK318 := n4_; have GW318 := n5_; have GE318 := n6_; have NB315_318 := n7_; have NB318_315 := n8_; have NB316_318 := n9_; have NB318_316 := n10_; have NB317_318 := n11_; have NB318_317 := n12_; clear n0_ n1_ n2_ n3_ n4_ n5_ n6_ n7_ n8_ n9_ n10_ n11_ n12_; clear hb hbox hg; have hnb9 := NB316_315.out; have hnc9 := NB315_316.out; have hnb10 := NB316_317.out; have hnc10 := NB317_316.out; have hnb11 := NB316_318.out; have hnc11 := NB318_316.out; have hcz12_0 : w8.cell? ⟨gb316, 0, none⟩ = some (.int .i64 a1_0) := (Xe BK316.out 0).trans rfl; have hcz12_1 : w8.cell? ⟨gb316, 1, none⟩ = some (.int .i64 a1_1) := (Xe BK316.out 1).trans rfl; have hcz12_2 : w8.cell? ⟨gb316, 2, none⟩ = some (.int .i64 a1_2) := (Xe BK316.out 2).trans rfl; have hcz12_3 : w8.cell? ⟨gb316, 3, none⟩ = some (.int .i64 a1_3) := (Xe BK316.out 3).trans rfl; have hfz12_0 := Xd BK316.out 0; have hfz12_1 := Xd BK316.out 1; have hfz12_2 := Xd BK316.out 2; have hfz12_3 := Xd BK316.out 3; have hnb13 := NB315_317.out; have hnc13 := NB317_315.out; have hnb14 := NB315_318.out; have hnc14 := NB318_315.out; have hcz15_0 : w8.cell? ⟨gb315, 0, none⟩ = some (.int .i64 a0_0) := (Xe BK315.out 0).trans rfl; have hcz15_1 : w8.cell? ⟨gb315, 1, none⟩ = some (.int .i64 a0_1) := (Xe BK315.out 1).trans rfl; have hcz15_2 : w8.cell? ⟨gb315, 2, none⟩ = some (.int .i64 a0_2) := (Xe BK315.out 2).trans rfl; have hcz15_3 : w8.cell? ⟨gb315, 3, none⟩ = some (.int .i64 a0_3) := (Xe BK315.out 3).trans rfl; have hfz15_0 := Xd BK315.out 0; have hfz15_1 := Xd BK315.out 1; have hfz15_2 := Xd BK315.out 2; have hfz15_3 := Xd BK315.out 3) | ((with_reducible refine gate_callee (f := 70) rfl ?_); refine goesL_ (some 14) rfl rfl Try.func70 (by kernel_rfl) rfl #[.agg #[.int .i64 a1_0, .int .i64 a1_1, .int .i64 a1_2, .int .i64 a1_3], .int .i64 a0_0, .int .i64 a0_1] rfl (by (try simp only [List.map_toArray, List.map_cons, List.map_nil]); first | done | rfl | (simp only [List.length_drop, List.length_take]; rfl)) ?_; (with_reducible refine (gatherumref03_Do.calls a1_0 a1_1 a1_2 a1_3 a0_0 a0_1 t319 t320 _ A3.out).mono ?_); rintro e w16 ⟨rfl, hb⟩; refine ⟨_, rfl, ?_⟩; have n0_ := Za (Xf (g := gb315) (o := .cells #[.int .i64 a0_0, .int .i64 a0_1, .int .i64 a0_2, .int .i64 a0_3] 96 (0, 0)) (bb_14 BK315.out) hb); have n1_ := Za (Xf (g := gb316) (o := .cells #[.int .i64 a1_0, .int .i64 a1_1, .int .i64 a1_2, .int .i64 a1_3] 96 (0, 0)) (bb_14 BK316.out) hb); have n2_ := Za (Xf (g := gb317) (o := .cells #[.int .i64 0, .int .i64 0, .int .i64 0, .int .i64 0] 96 (0, 0)) (bb_14 BK317.out) hb); have n3_ := Za (Xf (g := gb318) (o := .cells #[.int .i64 0, .int .i64 0, .int .i64 0, .int .i64 0] 96 (0, 0)) (bb_14 BK318.out) hb); have n4_ := Za (below_step (hb_14 HB.out) hb); clear BK315; clear BK316; clear BK317; clear BK318; clear HB; have BK315 := n0_; have BK316 := n1_; have BK317 := n2_; have BK318 := n3_; have HB := n4_; clear n0_ n1_ n2_ n3_ n4_; (try clear hb); (try clear hb2); (try clear hk); (try clear hi); have hnb17 := NB318_317.out; have hnc17 := NB317_318.out; have hcz18_0 : w16.cell? ⟨gb318, 0, none⟩ = some (.int .i64 0) := (Xe BK318.out 0).trans rfl; have hcz18_1 : w16.cell? ⟨gb318, 1, none⟩ = some (.int .i64 0) := (Xe BK318.out 1).trans rfl; have hcz18_2 : w16.cell? ⟨gb318, 2, none⟩ = some (.int .i64 0) := (Xe BK318.out 2).trans rfl; have hcz18_3 : w16.cell? ⟨gb318, 3, none⟩ = some (.int .i64 0) := (Xe BK318.out 3).trans rfl; have hfz18_0 := Xd BK318.out 0; have hfz18_1 := Xd BK318.out 1; have hfz18_2 := Xd BK318.out 2; have hfz18_3 := Xd BK318.out 3; have hcz19_0 : w16.cell? ⟨gb316, 0, none⟩ = some (.int .i64 a1_0) := (Xe BK316.out 0).trans rfl; have hcz19_1 : w16.cell? ⟨gb316, 1, none⟩ = some (.int .i64 a1_1) := (Xe BK316.out 1).trans rfl; have hcz19_2 : w16.cell? ⟨gb316, 2, none⟩ = some (.int .i64 a1_2) := (Xe BK316.out 2).trans rfl; have hcz19_3 : w16.cell? ⟨gb316, 3, none⟩ = some (.int .i64 a1_3) := (Xe BK316.out 3).trans rfl; have hfz19_0 := Xd BK316.out 0; have hfz19_1 := Xd BK316.out 1; have hfz19_2 := Xd BK316.out 2; have hfz19_3 := Xd BK316.out 3; have hcz20_0 : w16.cell? ⟨gb315, 0, none⟩ = some (.int .i64 a0_0) := (Xe BK315.out 0).trans rfl; have hcz20_1 : w16.cell? ⟨gb315, 1, none⟩ = some (.int .i64 a0_1) := (Xe BK315.out 1).trans rfl; have hcz20_2 : w16.cell? ⟨gb315, 2, none⟩ = some (.int .i64 a0_2) := (Xe BK315.out 2).trans rfl; have hcz20_3 : w16.cell? ⟨gb315, 3, none⟩ = some (.int .i64 a0_3) := (Xe BK315.out 3).trans rfl; have hfz20_0 := Xd BK315.out 0; have hfz20_1 := Xd BK315.out 1; have hfz20_2 := Xd BK315.out 2; have hfz20_3 := Xd BK315.out 3) | ((with_reducible refine gate_callee (f := 70) rfl ?_); refine goesL_ (some 27) rfl rfl Try.func70 (by kernel_rfl) rfl #[.agg #[.int .i64 a1_0, .int .i64 a1_1, .int .i64 a1_2, .int .i64 a1_3], .int .i64 a0_2, .int .i64 a0_3] rfl (by (try simp only [List.map_toArray, List.map_cons, List.map_nil]); first | done | rfl | (simp only [List.length_drop, List.length_take]; rfl)) ?_; (with_reducible refine (gatherumref03_Do.calls a1_0 a1_1 a1_2 a1_3 a0_2 a0_3 t321 t322 _ A4.out).mono ?_); rintro e w21 ⟨rfl, hb⟩; refine ⟨_, rfl, ?_⟩; have n0_ := Za (Xf (g := gb315) (o := .cells #[.int .i64 a0_0, .int .i64 a0_1, .int .i64 a0_2, .int .i64 a0_3] 96 (0, 0)) (by (with_reducible repeat (first | refine Xg ?_ _ | refine blk_drew ?_ | refine Xh ?_ _)); refine blk_far ?_ NB315_318.out _; (with_reducible repeat (first | refine Xg ?_ _ | refine blk_drew ?_ | refine Xh ?_ _)); refine blk_far ?_ NB315_318.out _; (with_reducible repeat (first | refine Xg ?_ _ | refine blk_drew ?_ | refine Xh ?_ _)); exact BK315.out) hb); have n1_ := Za (Xf (g := gb316) (o := .cells #[.int .i64 a1_0, .int .i64 a1_1, .int .i64 a1_2, .int .i64 a1_3] 96 (0, 0)) (by (with_reducible repeat (first | refine Xg ?_ _ | refine blk_drew ?_ | refine Xh ?_ _)); refine blk_far ?_ NB316_318.out _; (with_reducible repeat (first | refine Xg ?_ _ | refine blk_drew ?_ | refine Xh ?_ _)); refine blk_far ?_ NB316_318.out _; (with_reducible repeat (first | refine Xg ?_ _ | refine blk_drew ?_ | refine Xh ?_ _)); exact BK316.out) hb); have n2_ := Za (Xf (g := gb317) (o := .cells #[.int .i64 0, .int .i64 0, .int .i64 0, .int .i64 0] 96 (0, 0)) (by (with_reducible repeat (first | refine Xg ?_ _ | refine blk_drew ?_ | refine Xh ?_ _)); refine blk_far ?_ NB317_318.out _; (with_reducible repeat (first | refine Xg ?_ _ | refine blk_drew ?_ | refine Xh ?_ _)); refine blk_far ?_ NB317_318.out _; (with_reducible repeat (first | refine Xg ?_ _ | refine blk_drew ?_ | refine Xh ?_ _)); exact BK317.out) hb); have n3_ := Za (Xf (g := gb318) (o := .cells #[.int .i64 t319, .int .i64 t320, .int .i64 0, .int .i64 0] 96 (0, 0)) (by (with_reducible repeat (first | refine Xg ?_ _ | refine blk_drew ?_ | refine Xh ?_ _)); refine blk_put (cs := #[.int .i64 t319, .int .i64 0, .int .i64 0, .int .i64 0]) ?_ 1 _ rfl; (with_reducible repeat (first | refine Xg ?_ _ | refine blk_drew ?_ | refine Xh ?_ _)); refine blk_put (cs := #[.int .i64 0, .int .i64 0, .int .i64 0, .int .i64 0]) ?_ 0 _ rfl; (with_reducible repeat (first | refine Xg ?_ _ | refine blk_drew ?_ | refine Xh ?_ _)); exact BK318.out) hb); have n4_ := Za (below_step (hb_14 HB.out) hb); clear BK315; clear BK316; clear BK317; clear BK318; clear HB; have BK315 := n0_; have BK316 := n1_; have BK317 := n2_; have BK318 := n3_; have HB := n4_; clear n0_ n1_ n2_ n3_ n4_; (try clear hb); (try clear hb2); (try clear hk); (try clear hi); have hcz22_0 : w21.cell? ⟨gb318, 0, none⟩ = some (.int .i64 t319) := (Xe BK318.out 0).trans rfl; have hcz22_1 : w21.cell? ⟨gb318, 1, none⟩ = some (.int .i64 t320) := (Xe BK318.out 1).trans rfl; have hcz22_2 : w21.cell? ⟨gb318, 2, none⟩ = some (.int .i64 0) := (Xe BK318.out 2).trans rfl; have hcz22_3 : w21.cell? ⟨gb318, 3, none⟩ = some (.int .i64 0) := (Xe BK318.out 3).trans rfl; have hfz22_0 := Xd BK318.out 0; have hfz22_1 := Xd BK318.out 1; have hfz22_2 := Xd BK318.out 2; have hfz22_3 := Xd BK318.out 3; have hcz23_0 : w21.cell? ⟨gb317, 0, none⟩ = some (.int .i64 0) := (Xe BK317.out 0).trans rfl; have hcz23_1 : w21.cell? ⟨gb317, 1, none⟩ = some (.int .i64 0) := (Xe BK317.out 1).trans rfl; have hcz23_2 : w21.cell? ⟨gb317, 2, none⟩ = some (.int .i64 0) := (Xe BK317.out 2).trans rfl; have hcz23_3 : w21.cell? ⟨gb317, 3, none⟩ = some (.int .i64 0) := (Xe BK317.out 3).trans rfl; have hfz23_0 := Xd BK317.out 0; have hfz23_1 := Xd BK317.out 1; have hfz23_2 := Xd BK317.out 2; have hfz23_3 := Xd BK317.out 3))
 refine bodyPost_ret (results_cell_row rfl _ _ gb317 96 #[.int .i64 t319, .int .i64 t320, .int .i64 t321, .int .i64 t322] (0, 0) _ rfl (by (with_reducible repeat (first | refine Xg ?_ _ | refine blk_drew ?_ | refine Xh ?_ _)); refine blk_put (cs := #[.int .i64 t319, .int .i64 t320, .int .i64 t321, .int .i64 0]) ?_ 3 _ rfl; (with_reducible repeat (first | refine Xg ?_ _ | refine blk_drew ?_ | refine Xh ?_ _)); refine blk_put (cs := #[.int .i64 t319, .int .i64 t320, .int .i64 0, .int .i64 0]) ?_ 2 _ rfl; (with_reducible repeat (first | refine Xg ?_ _ | refine blk_drew ?_ | refine Xh ?_ _)); refine blk_put (cs := #[.int .i64 t319, .int .i64 0, .int .i64 0, .int .i64 0]) ?_ 1 _ rfl; (with_reducible repeat (first | refine Xg ?_ _ | refine blk_drew ?_ | refine Xh ?_ _)); refine blk_put (cs := #[.int .i64 0, .int .i64 0, .int .i64 0, .int .i64 0]) ?_ 0 _ rfl; (with_reducible repeat (first | refine Xg ?_ _ | refine blk_drew ?_ | refine Xh ?_ _)); refine blk_far ?_ NB317_318.out _; (with_reducible repeat (first | refine Xg ?_ _ | refine blk_drew ?_ | refine Xh ?_ _)); refine blk_far ?_ NB317_318.out _; (with_reducible repeat (first | refine Xg ?_ _ | refine blk_drew ?_ | refine Xh ?_ _)); exact BK317.out) Try.underlying96 rfl (by kernel_rfl)) rfl ?_
 exact ⟨by first | rfl | (simp [errW_none, errW_some] <;> rfl) | (simp [*, errW_none, errW_some] <;> rfl), by repeat (first | (with_reducible first | exact HB.out | apply below_alloc | apply pw_below_drewN | apply below_drew1 | refine below_set ?_ GE315.out | refine below_set ?_ GE316.out | refine below_set ?_ GE317.out | refine below_set ?_ GE318.out) | exact HB.out)⟩

/-! ### gatherumref04_Back: function 34 -/
def gatherumref04_Back.l0 : Nat → Int → Int → Int → Int → Option (Int × Int × Int)
 | 0, _, _, _, _ => none
 | k + 1, x3, x324000, x324001, x324002 => if x3 < 8 then ((gatherumref03_Of.f k x324000).bind fun bt325 => ((gatherumref03_Of.f k x3).bind fun bt329 => ((gatherumref03_Then.f bt325.1 bt325.2.1 bt325.2.2.1 bt325.2.2.2 bt329.1 bt329.2.1 bt329.2.2.1 bt329.2.2.2).bind fun bt333 => ((gatherumref03_Of.f k 0).bind fun bt337 => (if (bt333.1 == bt337.1 && (bt333.2.1 == bt337.2.1 && (bt333.2.2.1 == bt337.2.2.1 && (bt333.2.2.2 == bt337.2.2.2)))) = true then ((gatherumref03_Of.f k x3).bind fun bt341 => ((gatherumref03_Do.f bt341.1 bt341.2.1 bt341.2.2.1 bt341.2.2.2 x324001 x324002).bind fun bt345 => (some (x3, wrap64 (-bt345.1), wrap64 (-bt345.2))))) else (gatherumref04_Back.l0 k (wrap64 (x3 + 1)) x324000 x324001 x324002)))))) else (some (0, 0, 0))
def gatherumref04_Back.f (k : Nat) (a0_0 : Int) (a0_1 : Int) (a0_2 : Int) : Option (Int × Int × Int) := gatherumref04_Back.l0 k 0 a0_0 a0_1 a0_2
theorem gatherumref04_Back.mono_l : ∀ k, (∀ y0 y1 y2 y3, LeO (gatherumref04_Back.l0 k y0 y1 y2 y3) (gatherumref04_Back.l0 (k + 1) y0 y1 y2 y3))
 | 0 => fun _ _ _ _ r h => by simp [gatherumref04_Back.l0] at h
 | k + 1 => by
  have ih0 := gatherumref04_Back.mono_l k
  ·intro y0 y1 y2 y3
   unfold gatherumref04_Back.l0
   repeat' first
   | (with_reducible exact ih0 _ _ _ _)
   | (with_reducible exact gatherumref03_Of.mono _ _)
   | (with_reducible exact LeO.refl _)
   | (with_reducible exact LeO.none _)
   | (with_reducible refine LeO.ite ?_ ?_)
   | (with_reducible refine LeO.bind ?_ (fun _ => ?_))
   | exact ih0 _ _ _ _
   | exact gatherumref03_Of.mono _ _
   | exact LeO.none _
   | refine LeO.ite ?_ ?_
   | refine LeO.bind ?_ (fun _ => ?_)
theorem gatherumref04_Back.mono : ∀ a0 a1 a2 k, LeO (gatherumref04_Back.f k a0 a1 a2) (gatherumref04_Back.f (k + 1) a0 a1 a2) := by
 intro a0 a1 a2 k
 have ih0 := gatherumref04_Back.mono_l k
 unfold gatherumref04_Back.f
 repeat' first
   | (with_reducible exact ih0 _ _ _ _)
   | (with_reducible exact gatherumref03_Of.mono _ _)
   | (with_reducible exact LeO.refl _)
   | (with_reducible exact LeO.none _)
   | (with_reducible refine LeO.ite ?_ ?_)
   | (with_reducible refine LeO.bind ?_ (fun _ => ?_))
   | exact ih0 _ _ _ _
   | exact gatherumref03_Of.mono _ _
   | exact LeO.none _
   | refine LeO.ite ?_ ?_
   | refine LeO.bind ?_ (fun _ => ?_)
def gatherumref04_Back.T5 : Bool × List (List Nat × List Nat) := (true, [([], []), ([0], [0]), ([], []), ([2], [2]), ([], []), ([4], [4]), ([1, 3, 5, 1], [1, 3, 5]), ([6], [6]), ([7], [7]), ([7], [7]), ([8, 6, 0, 1, 2, 3, 4, 5, 6, 7, 8], [8]), ([9, 10, 0, 1, 2, 3, 4, 5, 6, 7, 8, 9, 10], [9])])
def gatherumref04_Back.B5 : List Nat := [0, 1, 0, 4, 0, 16, 63, 127, 255, 255, 511, 2047]
theorem gatherumref04_Back.tab5 : rtab .any (opsOf Try.f34 5) = gatherumref04_Back.T5 := by kernel_rfl
theorem gatherumref04_Back.bits5 : waitsOk gatherumref04_Back.T5.2 gatherumref04_Back.B5 = true := by kernel_rfl
set_option maxHeartbeats 8000000 in
set_option maxRecDepth 100000 in
theorem gatherumref04_Back.calls (k : Nat) (a0_0 : Int) (a0_1 : Int) (a0_2 : Int) (r1 : Int) (r2 : Int) (r3 : Int) (w : World) (h : gatherumref04_Back.f k a0_0 a0_1 a0_2 = some (r1, r2, r3)) :
  Calls Try.prog 34 #[.agg #[.int .i64 a0_0, .int .i64 a0_1, .int .i64 a0_2]] w fun e w' => e = .returned (.agg #[.int .i64 r1, .int .i64 r2, .int .i64 r3]) ∧ Below w.heap.size w w' := by
 have hu32 := Try.underlying32
 have HB := Za (Below.refl w.heap.size w)
 have H : (gatherumref04_Back.l0 k 0 a0_0 a0_1 a0_2) = some (r1, r2, r3) := h
 clear h
 have H' := Za H
 clear H
 go_enter Try.func34, Try.ntmps34
 go_wp2_with (first | ((with_reducible refine gate_dst (N := 1) rfl ?_); refine box_event ?hg (N := 1) ?hd (cs := #[.int .i64 a0_0, .int .i64 a0_1, .int .i64 a0_2]) (t := 32) ?hr ?_; (case hd => rfl); (case hg => rfl); (case hr => first | (go_simp; done) | (go_simp; rfl)); intro gb323 hg w2 hbox hb; have n0_ := Za (below_step (hb_14 HB.out) hb); have n1_ := Za (hbox); have n2_ := Za ((by rw [hg]; exact (below_size (hb_14 HB.out)) : w.heap.size ≤ gb323)); have n3_ := Za ((by rw [hg]; exact (below_size (hb_14 HB.out)) : w.heap.size ≤ gb323)); clear HB; have HB := n0_; have BK323 := n1_; have GW323 := n2_; have GE323 := n3_; clear n0_ n1_ n2_ n3_; clear hb hbox hg) | ((with_reducible refine gate_dst (N := 2) rfl ?_); refine box_event ?hg (N := 2) ?hd (cs := #[.int .i64 0, .int .i64 0, .int .i64 0]) (t := 32) ?hr ?_; (case hd => rfl); (case hg => rfl); (case hr => first | (go_simp; done) | (go_simp; rfl)); intro gb324 hg w3 hbox hb; have n0_ := Za (Xf (g := gb323) (o := .cells #[.int .i64 a0_0, .int .i64 a0_1, .int .i64 a0_2] 32 (0, 0)) (bb_14 BK323.out) hb); have n1_ := Za (below_step (hb_14 HB.out) hb); have n2_ := Za (hbox); have n3_ := Za ((by rw [hg]; exact (below_size (hb_14 HB.out)) : w.heap.size ≤ gb324)); have n4_ := Za ((by rw [hg]; exact (below_size (hb_14 HB.out)) : w.heap.size ≤ gb324)); have n5_ := Za ((by rw [hg]; exact Nat.ne_of_lt (blk_lt (g := gb323) (o := .cells #[.int .i64 a0_0, .int .i64 a0_1, .int .i64 a0_2] 32 (0, 0)) (bb_14 BK323.out)) : gb323 ≠ gb324)); have n6_ := Za ((by rw [hg]; exact Nat.ne_of_gt (blk_lt (g := gb323) (o := .cells #[.int .i64 a0_0, .int .i64 a0_1, .int .i64 a0_2] 32 (0, 0)) (bb_14 BK323.out)) : gb324 ≠ gb323)); clear BK323; clear HB; have BK323 := n0_; have HB := n1_; have BK324 := n2_; have GW324 := n3_; have GE324 := n4_; have NB323_324 := n5_; have NB324_323 := n6_; clear n0_ n1_ n2_ n3_ n4_ n5_ n6_; clear hb hbox hg))
 go_loopg [3] k (fun kq v3 w' => ∃ (x3_1 : Int) (x325000_1 : Int) (x325001_1 : Int) (x325002_1 : Int), v3 = .int .i64 x3_1 ∧ Aside0 (gatherumref04_Back.l0 kq x3_1 a0_0 a0_1 a0_2 = some (r1, r2, r3)) ∧ Aside0 (kq ≤ k) ∧ Aside0 (w'.heap[gb323]? = some (.cells #[.int .i64 a0_0, .int .i64 a0_1, .int .i64 a0_2] 32 (0, 0))) ∧ Aside0 (w'.heap[gb324]? = some (.cells #[.int .i64 x325000_1, .int .i64 x325001_1, .int .i64 x325002_1] 32 (0, 0))) ∧ Aside0 (Below w.heap.size w w'))
 case atStart => exact ⟨(0), (0), (0), (0), (by first | rfl | (simp; done) | (simp [*]; done)), H', ⟨Nat.le_refl _⟩, ⟨by (with_reducible repeat (first | refine Xg ?_ _ | refine blk_drew ?_ | refine Xh ?_ _)); exact BK323.out⟩, ⟨by (with_reducible repeat (first | refine Xg ?_ _ | refine blk_drew ?_ | refine Xh ?_ _)); exact BK324.out⟩, ⟨by repeat (first | (with_reducible first | exact HB.out | apply below_alloc | apply pw_below_drewN | apply below_drew1 | refine below_set ?_ GE323.out | refine below_set ?_ GE324.out) | exact HB.out)⟩⟩
 case round =>
  clear H'
  try clear p2
  try clear c3
  obtain ⟨x3_1, x325000_1, x325001_1, x325002_1, rfl, HA, HK1, BK323, BK324, HB⟩ := hrel
  cases gk with
  | zero => exact absurd HA.out (by simp [gatherumref04_Back.l0])
  | succ k1 =>
   have H := HA.out
   clear HA
   simp only [gatherumref04_Back.l0] at H
   by_cases c4 : x3_1 < 8
   ·rw [if_pos c4] at H
    have c4b0 : decide (x3_1 < 8) = true := decide_eq_true c4
    clear c4
    replace H := Option.bind_eq_some_iff.mp H
    obtain ⟨⟨t325, t326, t327, t328⟩, A50, H⟩ := H
    replace H : ((gatherumref03_Of.f k1 x3_1).bind fun bt329 => ((gatherumref03_Then.f t325 t326 t327 t328 bt329.1 bt329.2.1 bt329.2.2.1 bt329.2.2.2).bind fun bt333 => ((gatherumref03_Of.f k1 0).bind fun bt337 => (if (bt333.1 == bt337.1 && (bt333.2.1 == bt337.2.1 && (bt333.2.2.1 == bt337.2.2.1 && (bt333.2.2.2 == bt337.2.2.2)))) = true then ((gatherumref03_Of.f k1 x3_1).bind fun bt341 => ((gatherumref03_Do.f bt341.1 bt341.2.1 bt341.2.2.1 bt341.2.2.2 a0_1 a0_2).bind fun bt345 => (some (x3_1, wrap64 (-bt345.1), wrap64 (-bt345.2))))) else (gatherumref04_Back.l0 k1 (wrap64 (x3_1 + 1)) a0_0 a0_1 a0_2))))) = some (r1, r2, r3) := H
    have A5 := Za A50
    clear A50
    replace H := Option.bind_eq_some_iff.mp H
    obtain ⟨⟨t329, t330, t331, t332⟩, A60, H⟩ := H
    replace H : ((gatherumref03_Then.f t325 t326 t327 t328 t329 t330 t331 t332).bind fun bt333 => ((gatherumref03_Of.f k1 0).bind fun bt337 => (if (bt333.1 == bt337.1 && (bt333.2.1 == bt337.2.1 && (bt333.2.2.1 == bt337.2.2.1 && (bt333.2.2.2 == bt337.2.2.2)))) = true then ((gatherumref03_Of.f k1 x3_1).bind fun bt341 => ((gatherumref03_Do.f bt341.1 bt341.2.1 bt341.2.2.1 bt341.2.2.2 a0_1 a0_2).bind fun bt345 => (some (x3_1, wrap64 (-bt345.1), wrap64 (-bt345.2))))) else (gatherumref04_Back.l0 k1 (wrap64 (x3_1 + 1)) a0_0 a0_1 a0_2)))) = some (r1, r2, r3) := H
    have A6 := Za A60
    clear A60
    replace H := Option.bind_eq_some_iff.mp H
    obtain ⟨⟨t333, t334, t335, t336⟩, A70, H⟩ := H
    replace H : ((gatherumref03_Of.f k1 0).bind fun bt337 => (if (t333 == bt337.1 && (t334 == bt337.2.1 && (t335 == bt337.2.2.1 && (t336 == bt337.2.2.2)))) = true then ((gatherumref03_Of.f k1 x3_1).bind fun bt341 => ((gatherumref03_Do.f bt341.1 bt341.2.1 bt341.2.2.1 bt341.2.2.2 a0_1 a0_2).bind fun bt345 => (some (x3_1, wrap64 (-bt345.1), wrap64 (-bt345.2))))) else (gatherumref04_Back.l0 k1 (wrap64 (x3_1 + 1)) a0_0 a0_1 a0_2))) = some (r1, r2, r3) := H
    have A7 := Za A70
    clear A70
    replace H := Option.bind_eq_some_iff.mp H
    obtain ⟨⟨t337, t338, t339, t340⟩, A80, H⟩ := H
    replace H : (if (t333 == t337 && (t334 == t338 && (t335 == t339 && (t336 == t340)))) = true then ((gatherumref03_Of.f k1 x3_1).bind fun bt341 => ((gatherumref03_Do.f bt341.1 bt341.2.1 bt341.2.2.1 bt341.2.2.2 a0_1 a0_2).bind fun bt345 => (some (x3_1, wrap64 (-bt345.1), wrap64 (-bt345.2))))) else (gatherumref04_Back.l0 k1 (wrap64 (x3_1 + 1)) a0_0 a0_1 a0_2)) = some (r1, r2, r3) := H
    have A8 := Za A80
    clear A80
    by_cases c9 : (t333 == t337 && (t334 == t338 && (t335 == t339 && (t336 == t340)))) = true
    ·rw [if_pos c9] at H
     have c9b0 : (t333 == t337 && (t334 == t338 && (t335 == t339 && (t336 == t340)))) = true := c9
     (try (have c9b1 : decide (t333 = t337 && (t334 == t338 && (t335 == t339 && (t336 == t340)))) = true := by simpa using c9))
     (try (have c9b2 : (t333 == t337 && (t334 == t338 && (t335 == t339 && (t336 == t340)))) = true := by simpa using c9))
     clear c9
     replace H := Option.bind_eq_some_iff.mp H
     obtain ⟨⟨t341, t342, t343, t344⟩, A100, H⟩ := H
     replace H : ((gatherumref03_Do.f t341 t342 t343 t344 a0_1 a0_2).bind fun bt345 => (some (x3_1, wrap64 (-bt345.1), wrap64 (-bt345.2)))) = some (r1, r2, r3) := H
     have A10 := Za A100
     clear A100
     replace H := Option.bind_eq_some_iff.mp H
     obtain ⟨⟨t345, t346⟩, A110, H⟩ := H
     replace H : (some (x3_1, wrap64 (-t345), wrap64 (-t346))) = some (r1, r2, r3) := H
     have A11 := Za A110
     clear A110
     simp only [Option.some.injEq, Prod.mk.injEq] at H
     obtain ⟨rfl, rfl, rfl⟩ := H
     have hnb12 := NB323_324.out
     have hnc12 := NB324_323.out
     have hcz13_0 : wr.cell? ⟨gb323, 0, none⟩ = some (.int .i64 a0_0) := (Xe BK323.out 0).trans rfl
     have hcz13_1 : wr.cell? ⟨gb323, 1, none⟩ = some (.int .i64 a0_1) := (Xe BK323.out 1).trans rfl
     have hcz13_2 : wr.cell? ⟨gb323, 2, none⟩ = some (.int .i64 a0_2) := (Xe BK323.out 2).trans rfl
     have hfz13_0 := Xd BK323.out 0
     have hfz13_1 := Xd BK323.out 1
     have hfz13_2 := Xd BK323.out 2
     try go_wp2_with (first | ((with_reducible refine gate_callee (f := 71) rfl ?_); refine goesL_ (some 12) rfl rfl Try.func71 (by kernel_rfl) rfl #[.int .i64 a0_0] rfl (by (try simp only [List.map_toArray, List.map_cons, List.map_nil]); first | done | rfl | (simp only [List.length_drop, List.length_take]; rfl)) ?_; (with_reducible refine (gatherumref03_Of.calls k1 a0_0 t325 t326 t327 t328 _ A5.out).mono ?_); rintro e w14 ⟨rfl, hb⟩; refine ⟨_, rfl, ?_⟩; have n0_ := Za (Xf (g := gb323) (o := .cells #[.int .i64 a0_0, .int .i64 a0_1, .int .i64 a0_2] 32 (0, 0)) (bb_14 BK323.out) hb); have n1_ := Za (Xf (g := gb324) (o := .cells #[.int .i64 x325000_1, .int .i64 x325001_1, .int .i64 x325002_1] 32 (0, 0)) (bb_14 BK324.out) hb); have n2_ := Za (below_step (hb_14 HB.out) hb); clear BK323; clear BK324; clear HB; have BK323 := n0_; have BK324 := n1_; have HB := n2_; clear n0_ n1_ n2_; (try clear hb); (try clear hb2); (try clear hk); (try clear hi)) | ((with_reducible refine gate_callee (f := 71) rfl ?_); refine goesL_ (some 14) rfl rfl Try.func71 (by kernel_rfl) rfl #[.int .i64 x3_1] rfl (by (try simp only [List.map_toArray, List.map_cons, List.map_nil]); first | done | rfl | (simp only [List.length_drop, List.length_take]; rfl)) ?_; (with_reducible refine (gatherumref03_Of.calls k1 x3_1 t329 t330 t331 t332 _ A6.out).mono ?_); rintro e w15 ⟨rfl, hb⟩; refine ⟨_, rfl, ?_⟩; have n0_ := Za (Xf (g := gb323) (o := .cells #[.int .i64 a0_0, .int .i64 a0_1, .int .i64 a0_2] 32 (0, 0)) (bb_14 BK323.out) hb); have n1_ := Za (Xf (g := gb324) (o := .cells #[.int .i64 x325000_1, .int .i64 x325001_1, .int .i64 x325002_1] 32 (0, 0)) (bb_14 BK324.out) hb); have n2_ := Za (below_step (hb_14 HB.out) hb); clear BK323; clear BK324; clear HB; have BK323 := n0_; have BK324 := n1_; have HB := n2_; clear n0_ n1_ n2_; (try clear hb); (try clear hb2); (try clear hk); (try clear hi)) | ((with_reducible refine gate_callee (f := 82) rfl ?_); refine goesL_ (some 15) rfl rfl Try.func82 (by kernel_rfl) rfl #[.agg #[.int .i64 t325, .int .i64 t326, .int .i64 t327, .int .i64 t328], .agg #[.int .i64 t329, .int .i64 t330, .int .i64 t331, .int .i64 t332]] rfl (by (try simp only [List.map_toArray, List.map_cons, List.map_nil]); first | done | rfl | (simp only [List.length_drop, List.length_take]; rfl)) ?_; (with_reducible refine (gatherumref03_Then.calls t325 t326 t327 t328 t329 t330 t331 t332 t333 t334 t335 t336 _ A7.out).mono ?_); rintro e w16 ⟨rfl, hb⟩; refine ⟨_, rfl, ?_⟩; have n0_ := Za (Xf (g := gb323) (o := .cells #[.int .i64 a0_0, .int .i64 a0_1, .int .i64 a0_2] 32 (0, 0)) (bb_14 BK323.out) hb); have n1_ := Za (Xf (g := gb324) (o := .cells #[.int .i64 x325000_1, .int .i64 x325001_1, .int .i64 x325002_1] 32 (0, 0)) (bb_14 BK324.out) hb); have n2_ := Za (below_step (hb_14 HB.out) hb); clear BK323; clear BK324; clear HB; have BK323 := n0_; have BK324 := n1_; have HB := n2_; clear n0_ n1_ n2_; (try clear hb); (try clear hb2); (try clear hk); (try clear hi)) | ((with_reducible refine gate_callee (f := 71) rfl ?_); refine goesL_ (some 16) rfl rfl Try.func71 (by kernel_rfl) rfl #[.int .i64 0] rfl (by (try simp only [List.map_toArray, List.map_cons, List.map_nil]); first | done | rfl | (simp only [List.length_drop, List.length_take]; rfl)) ?_; (with_reducible refine (gatherumref03_Of.calls k1 0 t337 t338 t339 t340 _ A8.out).mono ?_); rintro e w17 ⟨rfl, hb⟩; refine ⟨_, rfl, ?_⟩; have n0_ := Za (Xf (g := gb323) (o := .cells #[.int .i64 a0_0, .int .i64 a0_1, .int .i64 a0_2] 32 (0, 0)) (bb_14 BK323.out) hb); have n1_ := Za (Xf (g := gb324) (o := .cells #[.int .i64 x325000_1, .int .i64 x325001_1, .int .i64 x325002_1] 32 (0, 0)) (bb_14 BK324.out) hb); have n2_ := Za (below_step (hb_14 HB.out) hb); clear BK323; clear BK324; clear HB; have BK323 := n0_; have BK324 := n1_; have HB := n2_; clear n0_ n1_ n2_; (try clear hb); (try clear hb2); (try clear hk); (try clear hi)))
     have n0_ := Za (blk_drew BK323.out)
     have n1_ := Za (blk_drew BK324.out)
     have n2_ := Za (below_drew1 HB.out)
     clear BK323
     clear BK324
     clear HB
     have BK323 := n0_
     have BK324 := n1_
     have HB := n2_
     clear n0_ n1_ n2_
     refine start_ (n := 12) (S := fun w' => w'.cell? ⟨gb323, 0, none⟩ = some (.int .i64 a0_0) ∧ w'.cell? ⟨gb323, 1, none⟩ = some (.int .i64 a0_1) ∧ w'.cell? ⟨gb323, 2, none⟩ = some (.int .i64 a0_2)) (ds := []) #[Zf,Zf,Zf,Zf,Zf,Zf,Zf,Zf,Zf,Zf,Zf,Zf] (by kernel_rfl) rfl rfl ⟨(Xe BK323.out 0).trans rfl, (Xe BK323.out 1).trans rfl, (Xe BK323.out 2).trans rfl⟩ (fun hHeld => ?_); refine with_tabW gatherumref04_Back.tab5 gatherumref04_Back.bits5 (fun HT_ HW_ => ?_)
     generalize w17.drew = w18 at BK323 BK324 HB hHeld ⊢
     refine pure_ (i := 0) (N := some 19) (v := ?_) (a' := ?_) #[true,Zf,Zf,Zf,Zf,Zf,Zf,Zf,Zf,Zf,Zf,Zf] rfl rfl (any_of HT_.out (by kernel_rfl)) (fun _ _ _ h => h) (Or.inl ⟨by rfl, ?_⟩) ?_ ?_
     rotate_left
     ·intro w'
      go_simp
      with_reducible rfl
     rotate_left
     ·simp only [Act.put, Xa, List.set_cons_zero, List.set_cons_succ, i64_w, i32_w]
      rfl
     refine pure_ (i := 2) (N := some 21) (v := ?_) (a' := ?_) #[true,Zf,true,Zf,Zf,Zf,Zf,Zf,Zf,Zf,Zf,Zf] rfl rfl (any_of HT_.out (by kernel_rfl)) (fun _ _ _ h => h) (Or.inl ⟨by rfl, ?_⟩) ?_ ?_
     rotate_left
     ·intro w'
      go_simp
      with_reducible rfl
     rotate_left
     ·simp only [Act.put, Xa, List.set_cons_zero, List.set_cons_succ, i64_w, i32_w]
      rfl
     refine pure_ (i := 4) (N := some 23) (v := ?_) (a' := ?_) #[true,Zf,true,Zf,true,Zf,Zf,Zf,Zf,Zf,Zf,Zf] rfl rfl (any_of HT_.out (by kernel_rfl)) (fun _ _ _ h => h) (Or.inl ⟨by rfl, ?_⟩) ?_ ?_
     rotate_left
     ·intro w'
      go_simp
      with_reducible rfl
     rotate_left
     ·simp only [Act.put, Xa, List.set_cons_zero, List.set_cons_succ, i64_w, i32_w]
      rfl
     refine take_ (i := 3) (N := some 22) (v := ?_) (a' := ?_) #[true,Zf,true,true,true,Zf,Zf,Zf,Zf,Zf,Zf,Zf] rfl rfl (take_ofW HT_.out HW_.out (by kernel_rfl)) (fun _ _ _ h => h) (Or.inl ⟨by rfl, ?_⟩) hHeld ?_ ?_
     rotate_left
     ·rintro w' ⟨s0, s1, s2⟩
      go_simp
      with_reducible rfl
     rotate_left
     ·simp only [Act.put, Xa, List.set_cons_zero, List.set_cons_succ, i64_w, i32_w]
      rfl
     refine take_ (i := 5) (N := some 24) (v := ?_) (a' := ?_) #[true,Zf,true,true,true,true,Zf,Zf,Zf,Zf,Zf,Zf] rfl rfl (take_ofW HT_.out HW_.out (by kernel_rfl)) (fun _ _ _ h => h) (Or.inl ⟨by rfl, ?_⟩) hHeld ?_ ?_
     rotate_left
     ·rintro w' ⟨s0, s1, s2⟩
      go_simp
      with_reducible rfl
     rotate_left
     ·simp only [Act.put, Xa, List.set_cons_zero, List.set_cons_succ, i64_w, i32_w]
      rfl
     refine one_ (i := 1) (N := some 20) #[true,true,true,true,true,true,Zf,Zf,Zf,Zf,Zf,Zf] rfl rfl (one_of HT_.out (by kernel_rfl)) (by decide) (fun K hK => ?_)
     refine goes_ Try.func71 (by kernel_rfl) rfl #[.int .i64 x3_1] (by rfl) rfl rfl (by (try simp only [List.map_toArray, List.map_cons, List.map_nil]); first | done | rfl | (simp only [List.length_drop, List.length_take]; rfl)) ?_
     with_reducible refine (gatherumref03_Of.calls k1 x3_1 t341 t342 t343 t344 _ A10.out).mono ?_
     rintro e w19 ⟨rfl, hb⟩
     refine ⟨_, rfl, ?_⟩
     have n0_ := Za (Xf (g := gb323) (o := .cells #[.int .i64 a0_0, .int .i64 a0_1, .int .i64 a0_2] 32 (0, 0)) (bb_14 BK323.out) hb)
     have n1_ := Za (Xf (g := gb324) (o := .cells #[.int .i64 x325000_1, .int .i64 x325001_1, .int .i64 x325002_1] 32 (0, 0)) (bb_14 BK324.out) hb)
     have n2_ := Za (below_step (hb_14 HB.out) hb)
     clear BK323
     clear BK324
     clear HB
     have BK323 := n0_
     have BK324 := n1_
     have HB := n2_
     clear n0_ n1_ n2_
     (try clear hb)
     (try clear hb2)
     (try clear hk)
     (try clear hi)
     refine hK.out _ _ ⟨(Xe BK323.out 0).trans rfl, (Xe BK323.out 1).trans rfl, (Xe BK323.out 2).trans rfl⟩ (fun hHeld => ?_)
     clear hK K
     refine norm_ (a' := ?_) ?_ ?_
     rotate_left
     ·show Act.put _ (some 20) _ = _
      simp only [Act.put, Xa, List.set_cons_zero, List.set_cons_succ, i64_w, i32_w]
      rfl
     refine one_ (i := 6) (N := some 25) #[true,true,true,true,true,true,true,Zf,Zf,Zf,Zf,Zf] rfl rfl (one_of HT_.out (by kernel_rfl)) (by decide) (fun K hK => ?_)
     refine goes_ Try.func70 (by kernel_rfl) rfl #[.agg #[.int .i64 t341, .int .i64 t342, .int .i64 t343, .int .i64 t344], .int .i64 a0_1, .int .i64 a0_2] (by rfl) rfl rfl (by (try simp only [List.map_toArray, List.map_cons, List.map_nil]); first | done | rfl | (simp only [List.length_drop, List.length_take]; rfl)) ?_
     with_reducible refine (gatherumref03_Do.calls t341 t342 t343 t344 a0_1 a0_2 t345 t346 _ A11.out).mono ?_
     rintro e w20 ⟨rfl, hb⟩
     refine ⟨_, rfl, ?_⟩
     have n0_ := Za (Xf (g := gb323) (o := .cells #[.int .i64 a0_0, .int .i64 a0_1, .int .i64 a0_2] 32 (0, 0)) (bb_14 BK323.out) hb)
     have n1_ := Za (Xf (g := gb324) (o := .cells #[.int .i64 x325000_1, .int .i64 x325001_1, .int .i64 x325002_1] 32 (0, 0)) (bb_14 BK324.out) hb)
     have n2_ := Za (below_step (hb_14 HB.out) hb)
     clear BK323
     clear BK324
     clear HB
     have BK323 := n0_
     have BK324 := n1_
     have HB := n2_
     clear n0_ n1_ n2_
     (try clear hb)
     (try clear hb2)
     (try clear hk)
     (try clear hi)
     refine hK.out _ _ ⟨(Xe BK323.out 0).trans rfl, (Xe BK323.out 1).trans rfl, (Xe BK323.out 2).trans rfl⟩ (fun hHeld => ?_)
     clear hK K
     refine norm_ (a' := ?_) ?_ ?_
     rotate_left
     ·show Act.put _ (some 25) _ = _
      simp only [Act.put, Xa, List.set_cons_zero, List.set_cons_succ, i64_w, i32_w]
      rfl
     refine pure_ (i := 7) (N := some 18) (v := ?_) (a' := ?_) #[true,true,true,true,true,true,true,true,Zf,Zf,Zf,Zf] rfl rfl (any_of HT_.out (by kernel_rfl)) (fun _ _ _ h => h) (Or.inl ⟨by rfl, ?_⟩) ?_ ?_
     rotate_left
     ·intro w'
      go_simp
      with_reducible rfl
     rotate_left
     ·simp only [Act.put, Xa, List.set_cons_zero, List.set_cons_succ, i64_w, i32_w]
      rfl
     refine pure_ (i := 8) (N := some 26) (v := ?_) (a' := ?_) #[true,true,true,true,true,true,true,true,true,Zf,Zf,Zf] rfl rfl (any_of HT_.out (by kernel_rfl)) (fun _ _ _ h => h) (Or.inl ⟨by rfl, ?_⟩) ?_ ?_
     rotate_left
     ·intro w'
      go_simp
      with_reducible rfl
     rotate_left
     ·simp only [Act.put, Xa, List.set_cons_zero, List.set_cons_succ, i64_w, i32_w]
      rfl
     refine pure_ (i := 9) (N := some 27) (v := ?_) (a' := ?_) #[true,true,true,true,true,true,true,true,true,true,Zf,Zf] rfl rfl (any_of HT_.out (by kernel_rfl)) (fun _ _ _ h => h) (Or.inl ⟨by rfl, ?_⟩) ?_ ?_
     rotate_left
     ·intro w'
      go_simp
      with_reducible rfl
     rotate_left
     ·simp only [Act.put, Xa, List.set_cons_zero, List.set_cons_succ, i64_w, i32_w]
      rfl
     refine pure_ (i := 10) (N := some 4) (v := ?_) (a' := ?_) #[true,true,true,true,true,true,true,true,true,true,true,Zf] rfl rfl (any_of HT_.out (by kernel_rfl)) (fun _ _ _ h => h) (Or.inl ⟨by rfl, ?_⟩) ?_ ?_
     rotate_left
     ·intro w'
      go_simp
      with_reducible rfl
     rotate_left
     ·simp only [Act.put, Xa, List.set_cons_zero, List.set_cons_succ, i64_w, i32_w]
      rfl
     refine pure_ (i := 11) (N := some 5) (v := ?_) (a' := ?_) #[true,true,true,true,true,true,true,true,true,true,true,true] rfl rfl (any_of HT_.out (by kernel_rfl)) (fun _ _ _ h => h) (Or.inl ⟨by rfl, ?_⟩) ?_ ?_
     rotate_left
     ·intro w'
      go_simp
      with_reducible rfl
     rotate_left
     ·simp only [Act.put, Xa, List.set_cons_zero, List.set_cons_succ, i64_w, i32_w]
      rfl
     refine done_ (done_of HT_.out (by kernel_rfl)) ?_
     have hcz21_0 : w20.cell? ⟨gb324, 0, none⟩ = some (.int .i64 x325000_1) := (Xe BK324.out 0).trans rfl
     have hcz21_1 : w20.cell? ⟨gb324, 1, none⟩ = some (.int .i64 x325001_1) := (Xe BK324.out 1).trans rfl
     have hcz21_2 : w20.cell? ⟨gb324, 2, none⟩ = some (.int .i64 x325002_1) := (Xe BK324.out 2).trans rfl
     have hfz21_0 := Xd BK324.out 0
     have hfz21_1 := Xd BK324.out 1
     have hfz21_2 := Xd BK324.out 2
     try go_wp2
     refine bodyPost_ret (results_cell_row rfl _ _ gb324 32 #[.int .i64 x3_1, .int .i64 (wrap64 (-t345)), .int .i64 (wrap64 (-t346))] (0, 0) _ rfl (by (with_reducible repeat (first | refine Xg ?_ _ | refine blk_drew ?_ | refine Xh ?_ _)); refine blk_put (cs := #[.int .i64 x3_1, .int .i64 (wrap64 (-t345)), .int .i64 x325002_1]) ?_ 2 _ rfl; (with_reducible repeat (first | refine Xg ?_ _ | refine blk_drew ?_ | refine Xh ?_ _)); refine blk_put (cs := #[.int .i64 x3_1, .int .i64 x325001_1, .int .i64 x325002_1]) ?_ 1 _ rfl; (with_reducible repeat (first | refine Xg ?_ _ | refine blk_drew ?_ | refine Xh ?_ _)); refine blk_put (cs := #[.int .i64 x325000_1, .int .i64 x325001_1, .int .i64 x325002_1]) ?_ 0 _ rfl; (with_reducible repeat (first | refine Xg ?_ _ | refine blk_drew ?_ | refine Xh ?_ _)); exact BK324.out) Try.underlying32 rfl (by kernel_rfl)) rfl ?_
     exact ⟨by first | rfl | (simp [errW_none, errW_some] <;> rfl) | (simp [*, errW_none, errW_some] <;> rfl), by repeat (first | (with_reducible first | exact HB.out | apply below_alloc | apply pw_below_drewN | apply below_drew1 | refine below_set ?_ GE323.out | refine below_set ?_ GE324.out) | exact HB.out)⟩
    ·rw [if_neg c9] at H
     have c9b0 : (t333 == t337 && (t334 == t338 && (t335 == t339 && (t336 == t340)))) = Zf := by simpa using c9
     (try (have c9b1 : decide (t333 = t337 && (t334 == t338 && (t335 == t339 && (t336 == t340)))) = Zf := by simpa using c9))
     (try (have c9b2 : (t333 == t337 && (t334 == t338 && (t335 == t339 && (t336 == t340)))) = Zf := by simpa using c9))
     (try (have c9b3 : ¬ (t333 = t337 && (t334 == t338 && (t335 == t339 && (t336 == t340)))) := by simpa using c9))
     clear c9
     have H' := Za H
     clear H
     have hnb22 := NB323_324.out
     have hnc22 := NB324_323.out
     have hcz23_0 : wr.cell? ⟨gb323, 0, none⟩ = some (.int .i64 a0_0) := (Xe BK323.out 0).trans rfl
     have hcz23_1 : wr.cell? ⟨gb323, 1, none⟩ = some (.int .i64 a0_1) := (Xe BK323.out 1).trans rfl
     have hcz23_2 : wr.cell? ⟨gb323, 2, none⟩ = some (.int .i64 a0_2) := (Xe BK323.out 2).trans rfl
     have hfz23_0 := Xd BK323.out 0
     have hfz23_1 := Xd BK323.out 1
     have hfz23_2 := Xd BK323.out 2
     go_wp2_with (first | ((with_reducible refine gate_callee (f := 71) rfl ?_); refine goesL_ (some 12) rfl rfl Try.func71 (by kernel_rfl) rfl #[.int .i64 a0_0] rfl (by (try simp only [List.map_toArray, List.map_cons, List.map_nil]); first | done | rfl | (simp only [List.length_drop, List.length_take]; rfl)) ?_; (with_reducible refine (gatherumref03_Of.calls k1 a0_0 t325 t326 t327 t328 _ A5.out).mono ?_); rintro e w24 ⟨rfl, hb⟩; refine ⟨_, rfl, ?_⟩; have n0_ := Za (Xf (g := gb323) (o := .cells #[.int .i64 a0_0, .int .i64 a0_1, .int .i64 a0_2] 32 (0, 0)) (bb_14 BK323.out) hb); have n1_ := Za (Xf (g := gb324) (o := .cells #[.int .i64 x325000_1, .int .i64 x325001_1, .int .i64 x325002_1] 32 (0, 0)) (bb_14 BK324.out) hb); have n2_ := Za (below_step (hb_14 HB.out) hb); clear BK323; clear BK324; clear HB; have BK323 := n0_; have BK324 := n1_; have HB := n2_; clear n0_ n1_ n2_; (try clear hb); (try clear hb2); (try clear hk); (try clear hi)) | ((with_reducible refine gate_callee (f := 71) rfl ?_); refine goesL_ (some 14) rfl rfl Try.func71 (by kernel_rfl) rfl #[.int .i64 x3_1] rfl (by (try simp only [List.map_toArray, List.map_cons, List.map_nil]); first | done | rfl | (simp only [List.length_drop, List.length_take]; rfl)) ?_; (with_reducible refine (gatherumref03_Of.calls k1 x3_1 t329 t330 t331 t332 _ A6.out).mono ?_); rintro e w25 ⟨rfl, hb⟩; refine ⟨_, rfl, ?_⟩; have n0_ := Za (Xf (g := gb323) (o := .cells #[.int .i64 a0_0, .int .i64 a0_1, .int .i64 a0_2] 32 (0, 0)) (bb_14 BK323.out) hb); have n1_ := Za (Xf (g := gb324) (o := .cells #[.int .i64 x325000_1, .int .i64 x325001_1, .int .i64 x325002_1] 32 (0, 0)) (bb_14 BK324.out) hb); have n2_ := Za (below_step (hb_14 HB.out) hb); clear BK323; clear BK324; clear HB; have BK323 := n0_; have BK324 := n1_; have HB := n2_; clear n0_ n1_ n2_; (try clear hb); (try clear hb2); (try clear hk); (try clear hi)) | ((with_reducible refine gate_callee (f := 82) rfl ?_); refine goesL_ (some 15) rfl rfl Try.func82 (by kernel_rfl) rfl #[.agg #[.int .i64 t325, .int .i64 t326, .int .i64 t327, .int .i64 t328], .agg #[.int .i64 t329, .int .i64 t330, .int .i64 t331, .int .i64 t332]] rfl (by (try simp only [List.map_toArray, List.map_cons, List.map_nil]); first | done | rfl | (simp only [List.length_drop, List.length_take]; rfl)) ?_; (with_reducible refine (gatherumref03_Then.calls t325 t326 t327 t328 t329 t330 t331 t332 t333 t334 t335 t336 _ A7.out).mono ?_); rintro e w26 ⟨rfl, hb⟩; refine ⟨_, rfl, ?_⟩; have n0_ := Za (Xf (g := gb323) (o := .cells #[.int .i64 a0_0, .int .i64 a0_1, .int .i64 a0_2] 32 (0, 0)) (bb_14 BK323.out) hb); have n1_ := Za (Xf (g := gb324) (o := .cells #[.int .i64 x325000_1, .int .i64 x325001_1, .int .i64 x325002_1] 32 (0, 0)) (bb_14 BK324.out) hb); have n2_ := Za (below_step (hb_14 HB.out) hb); clear BK323; clear BK324; clear HB; have BK323 := n0_; have BK324 := n1_; have HB := n2_; clear n0_ n1_ n2_; (try clear hb); (try clear hb2); (try clear hk); (try clear hi)) | ((with_reducible refine gate_callee (f := 71) rfl ?_); refine goesL_ (some 16) rfl rfl Try.func71 (by kernel_rfl) rfl #[.int .i64 0] rfl (by (try simp only [List.map_toArray, List.map_cons, List.map_nil]); first | done | rfl | (simp only [List.length_drop, List.length_take]; rfl)) ?_; (with_reducible refine (gatherumref03_Of.calls k1 0 t337 t338 t339 t340 _ A8.out).mono ?_); rintro e w27 ⟨rfl, hb⟩; refine ⟨_, rfl, ?_⟩; have n0_ := Za (Xf (g := gb323) (o := .cells #[.int .i64 a0_0, .int .i64 a0_1, .int .i64 a0_2] 32 (0, 0)) (bb_14 BK323.out) hb); have n1_ := Za (Xf (g := gb324) (o := .cells #[.int .i64 x325000_1, .int .i64 x325001_1, .int .i64 x325002_1] 32 (0, 0)) (bb_14 BK324.out) hb); have n2_ := Za (below_step (hb_14 HB.out) hb); clear BK323; clear BK324; clear HB; have BK323 := n0_; have BK324 := n1_; have HB := n2_; clear n0_ n1_ n2_; (try clear hb); (try clear hb2); (try clear hk); (try clear hi)))
     go_roundg k1
     case measure => have := HK1.out; omega
     case rel => exact ⟨(wrap64 (x3_1 + 1)), (x325000_1), (x325001_1), (x325002_1), (by first | rfl | (simp; done) | (simp [*]; done)), H', ⟨by have := HK1.out; omega⟩, ⟨by (with_reducible repeat (first | refine Xg ?_ _ | refine blk_drew ?_ | refine Xh ?_ _)); exact BK323.out⟩, ⟨by (with_reducible repeat (first | refine Xg ?_ _ | refine blk_drew ?_ | refine Xh ?_ _)); exact BK324.out⟩, ⟨by repeat (first | (with_reducible first | exact HB.out | apply below_alloc | apply pw_below_drewN | apply below_drew1 | refine below_set ?_ GE323.out | refine below_set ?_ GE324.out) | exact HB.out)⟩⟩
   ·rw [if_neg c4] at H
    have c4b0 : decide (x3_1 < 8) = Zf := decide_eq_false c4
    clear c4
    simp only [Option.some.injEq, Prod.mk.injEq] at H
    obtain ⟨rfl, rfl, rfl⟩ := H
    have hnb28 := NB324_323.out
    have hnc28 := NB323_324.out
    have hcz29_0 : wr.cell? ⟨gb324, 0, none⟩ = some (.int .i64 x325000_1) := (Xe BK324.out 0).trans rfl
    have hcz29_1 : wr.cell? ⟨gb324, 1, none⟩ = some (.int .i64 x325001_1) := (Xe BK324.out 1).trans rfl
    have hcz29_2 : wr.cell? ⟨gb324, 2, none⟩ = some (.int .i64 x325002_1) := (Xe BK324.out 2).trans rfl
    have hfz29_0 := Xd BK324.out 0
    have hfz29_1 := Xd BK324.out 1
    have hfz29_2 := Xd BK324.out 2
    go_wp2
    refine bodyPost_ret (results_cell_row rfl _ _ gb324 32 #[.int .i64 0, .int .i64 0, .int .i64 0] (0, 0) _ rfl (by (with_reducible repeat (first | refine Xg ?_ _ | refine blk_drew ?_ | refine Xh ?_ _)); refine blk_put (cs := #[.int .i64 0, .int .i64 0, .int .i64 x325002_1]) ?_ 2 _ rfl; (with_reducible repeat (first | refine Xg ?_ _ | refine blk_drew ?_ | refine Xh ?_ _)); refine blk_put (cs := #[.int .i64 0, .int .i64 x325001_1, .int .i64 x325002_1]) ?_ 1 _ rfl; (with_reducible repeat (first | refine Xg ?_ _ | refine blk_drew ?_ | refine Xh ?_ _)); refine blk_put (cs := #[.int .i64 x325000_1, .int .i64 x325001_1, .int .i64 x325002_1]) ?_ 0 _ rfl; (with_reducible repeat (first | refine Xg ?_ _ | refine blk_drew ?_ | refine Xh ?_ _)); exact BK324.out) Try.underlying32 rfl (by kernel_rfl)) rfl ?_
    exact ⟨by first | rfl | (simp [errW_none, errW_some] <;> rfl) | (simp [*, errW_none, errW_some] <;> rfl), by repeat (first | (with_reducible first | exact HB.out | apply below_alloc | apply pw_below_drewN | apply below_drew1 | refine below_set ?_ GE323.out | refine below_set ?_ GE324.out) | exact HB.out)⟩

end Go.Proofs.Ythgmjhidigoneaa.PLayerKeeps
