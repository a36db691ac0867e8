import Derived.Test.YthgmjhidigoneaaPLayerKeepsx0
import Derived.Test.YthgmjhidigoneaaPLayerKeepsx8
namespace Go.Proofs.Ythgmjhidigoneaa.PLayerKeeps
open Go.RowKit Go.Proofs.YthgmjhidigoneaaW.PrintWords Go.Proofs.YthgmjhidigoneaaW.PrintLast Go.Proofs.YthgmjhidigoneaaW.PrintMore
open Bool renaming true → Zt, false → Zf
open Go.Proofs.YthgmjhidigoneaaW.PrintWords.Aside0 renaming mk → Za
open List renaming setIfInBounds_toArray → Xa, set_cons_zero → Xb, set_cons_succ → Xc
open Go.Proofs.YthgmjhidigoneaaW.PrintWords renaming blk_cell → Xd, blk_drewN → Xe, blk_alloc → Xf, blk_drew → Xg, blk_frozen → Xh, blk_below → Xi
attribute [local go_sem] max2_int min2_int max_two min_two max_three min_three max_four min_four   -- for this text's walks alone
set_option linter.unusedVariables false
set_option linter.unusedSimpArgs false
theorem bb_9 {p q : Prop} (h : q) (f : q → p := by intro h_; (with_reducible repeat (first | refine blk_drewN ?_ _ | refine blk_drew ?_ | refine blk_alloc ?_ _)); exact h_) : p := f h
theorem hb_9 {B : Nat} {w W W1 : World} (h : Below B w W) (f : Below B w W → Below B w W1 := by intro h_; repeat (first | (with_reducible first | exact h_ | apply below_alloc | apply pw_below_drewN | apply below_drew1 | refine below_set ?_ (Aside0.out (by assumption))) | exact h_)) : Below B w W1 := f h

/-! ### gatherumref03_Of: function 71 -/
mutual
def gatherumref03_Of.j0 : Nat → Int → Int → Int → Int → Int → Option (Int × Int × Int × Int)
 | 0, _, _, _, _, _ => none
 | k + 1, x0, x239000, x239001, x239002, x239003 => gatherumref03_Of.l0 k x0 0 x239000 x239001 x239002 x239003
def gatherumref03_Of.l0 : Nat → Int → Int → Int → Int → Int → Int → Option (Int × Int × Int × Int)
 | 0, _, _, _, _, _, _ => none
 | k + 1, x0, x4, x239000, x239001, x239002, x239003 => if x4 < (Int.tmod x0 4) then (gatherumref03_Of.l0 k x0 (wrap64 (x4 + 1)) (wrap64 (-x239001)) x239000 (wrap64 (-x239003)) x239002) else (some (x239000, x239001, x239002, x239003))
end
def gatherumref03_Of.f (k : Nat) (a0 : Int) : Option (Int × Int × Int × Int) := if (Go.bits .and .i64 a0 7) ≥ 4 then (gatherumref03_Of.j0 k (Go.bits .and .i64 a0 7) (-1) 0 0 1) else (gatherumref03_Of.j0 k (Go.bits .and .i64 a0 7) 1 0 0 1)
theorem gatherumref03_Of.mono_l : ∀ k, (∀ y0 y1 y2 y3 y4, LeO (gatherumref03_Of.j0 k y0 y1 y2 y3 y4) (gatherumref03_Of.j0 (k + 1) y0 y1 y2 y3 y4)) ∧ (∀ y0 y1 y2 y3 y4 y5, LeO (gatherumref03_Of.l0 k y0 y1 y2 y3 y4 y5) (gatherumref03_Of.l0 (k + 1) y0 y1 y2 y3 y4 y5))
 | 0 => ⟨fun _ _ _ _ _ r h => by simp [gatherumref03_Of.j0] at h, fun _ _ _ _ _ _ r h => by simp [gatherumref03_Of.l0] at h⟩
 | k + 1 => by
  obtain ⟨ih0, ih1⟩ := gatherumref03_Of.mono_l k
  refine ⟨?_, ?_⟩
  ·intro y0 y1 y2 y3 y4
   unfold gatherumref03_Of.j0
   repeat' first
   | (with_reducible exact ih0 _ _ _ _ _)
   | (with_reducible exact ih1 _ _ _ _ _ _)
   | (with_reducible exact LeO.refl _)
   | (with_reducible exact LeO.none _)
   | (with_reducible refine LeO.ite ?_ ?_)
   | (with_reducible refine LeO.bind ?_ (fun _ => ?_))
   | exact ih0 _ _ _ _ _
   | exact ih1 _ _ _ _ _ _
   | exact LeO.none _
   | refine LeO.ite ?_ ?_
   | refine LeO.bind ?_ (fun _ => ?_)
  ·intro y0 y1 y2 y3 y4 y5
   unfold gatherumref03_Of.l0
   repeat' first
   | (with_reducible exact ih0 _ _ _ _ _)
   | (with_reducible exact ih1 _ _ _ _ _ _)
   | (with_reducible exact LeO.refl _)
   | (with_reducible exact LeO.none _)
   | (with_reducible refine LeO.ite ?_ ?_)
   | (with_reducible refine LeO.bind ?_ (fun _ => ?_))
   | exact ih0 _ _ _ _ _
   | exact ih1 _ _ _ _ _ _
   | exact LeO.none _
   | refine LeO.ite ?_ ?_
   | refine LeO.bind ?_ (fun _ => ?_)
theorem gatherumref03_Of.mono : ∀ a0 k, LeO (gatherumref03_Of.f k a0) (gatherumref03_Of.f (k + 1) a0) := by
 intro a0 k
 obtain ⟨ih0, ih1⟩ := gatherumref03_Of.mono_l k
 unfold gatherumref03_Of.f
 repeat' first
   | (with_reducible exact ih0 _ _ _ _ _)
   | (with_reducible exact ih1 _ _ _ _ _ _)
   | (with_reducible exact LeO.refl _)
   | (with_reducible exact LeO.none _)
   | (with_reducible refine LeO.ite ?_ ?_)
   | (with_reducible refine LeO.bind ?_ (fun _ => ?_))
   | exact ih0 _ _ _ _ _
   | exact ih1 _ _ _ _ _ _
   | exact LeO.none _
   | refine LeO.ite ?_ ?_
   | refine LeO.bind ?_ (fun _ => ?_)
set_option maxHeartbeats 8000000 in
set_option maxRecDepth 100000 in
theorem gatherumref03_Of.calls (k : Nat) (a0 : Int) (r1 : Int) (r2 : Int) (r3 : Int) (r4 : Int) (w : World) (h : gatherumref03_Of.f k a0 = some (r1, r2, r3, r4)) :
  Calls Try.prog 71 #[.int .i64 a0] w fun e w' => e = .returned (.agg #[.int .i64 r1, .int .i64 r2, .int .i64 r3, .int .i64 r4]) ∧ Below w.heap.size w w' := by
 have hu96 := Try.underlying96
 have HB := Za (Below.refl w.heap.size w)
 have H : (if (Go.bits .and .i64 a0 7) ≥ 4 then (gatherumref03_Of.j0 k (Go.bits .and .i64 a0 7) (-1) 0 0 1) else (gatherumref03_Of.j0 k (Go.bits .and .i64 a0 7) 1 0 0 1)) = some (r1, r2, r3, r4) := h
 clear h
 have HC2 := Za H
 clear H
 go_enter Try.func71, Try.ntmps71
 go_upto_if 9 with (first | ((with_reducible refine gate_dst (N := 2) rfl ?_); refine box_event ?hg (N := 2) ?hd (cs := #[.int .i64 0, .int .i64 0, .int .i64 0, .int .i64 0]) (t := 96) ?hr ?_; (case hd => rfl); (case hg => rfl); (case hr => first | (go_simp; done) | (go_simp; rfl)); intro gb237 hg w3 hbox hb; have n0_ := Za (below_step (hb_9 HB.out) hb); have n1_ := Za (hbox); have n2_ := Za ((by rw [hg]; exact (below_size (hb_9 HB.out)) : w.heap.size ≤ gb237)); have n3_ := Za ((by rw [hg]; exact (below_size (hb_9 HB.out)) : w.heap.size ≤ gb237)); clear HB; have HB := n0_; have BK237 := n1_; have GW237 := n2_; have GE237 := n3_; clear n0_ n1_ n2_ n3_; clear hb hbox hg) | ((with_reducible refine gate_dst (N := 3) rfl ?_); refine box_event ?hg (N := 3) ?hd (cs := #[.int .i64 0, .int .i64 0, .int .i64 0, .int .i64 0]) (t := 96) ?hr ?_; (case hd => rfl); (case hg => rfl); (case hr => first | (go_simp; done) | (go_simp; rfl)); intro gb238 hg w4 hbox hb; have n0_ := Za (Xi (g := gb237) (o := .cells #[.int .i64 0, .int .i64 0, .int .i64 0, .int .i64 0] 96 (0, 0)) (bb_9 BK237.out) hb); have n1_ := Za (below_step (hb_9 HB.out) hb); have n2_ := Za (hbox); have n3_ := Za ((by rw [hg]; exact (below_size (hb_9 HB.out)) : w.heap.size ≤ gb238)); have n4_ := Za ((by rw [hg]; exact (below_size (hb_9 HB.out)) : w.heap.size ≤ gb238)); have n5_ := Za ((by rw [hg]; exact Nat.ne_of_lt (blk_lt (g := gb237) (o := .cells #[.int .i64 0, .int .i64 0, .int .i64 0, .int .i64 0] 96 (0, 0)) (bb_9 BK237.out)) : gb237 ≠ gb238)); have n6_ := Za ((by rw [hg]; exact Nat.ne_of_gt (blk_lt (g := gb237) (o := .cells #[.int .i64 0, .int .i64 0, .int .i64 0, .int .i64 0] 96 (0, 0)) (bb_9 BK237.out)) : gb238 ≠ gb237)); clear BK237; clear HB; have BK237 := n0_; have HB := n1_; have BK238 := n2_; have GW238 := n3_; have GE238 := n4_; have NB237_238 := n5_; have NB238_237 := n6_; clear n0_ n1_ n2_ n3_ n4_ n5_ n6_; clear hb hbox hg; have hnb5 := NB238_237.out; have hnc5 := NB237_238.out; have hcz6_0 : w4.cell? ⟨gb238, 0, none⟩ = some (.int .i64 0) := (Xd BK238.out 0).trans rfl; have hcz6_1 : w4.cell? ⟨gb238, 1, none⟩ = some (.int .i64 0) := (Xd BK238.out 1).trans rfl; have hcz6_2 : w4.cell? ⟨gb238, 2, none⟩ = some (.int .i64 0) := (Xd BK238.out 2).trans rfl; have hcz6_3 : w4.cell? ⟨gb238, 3, none⟩ = some (.int .i64 0) := (Xd BK238.out 3).trans rfl; have hfz6_0 := Xh BK238.out 0; have hfz6_1 := Xh BK238.out 1; have hfz6_2 := Xh BK238.out 2; have hfz6_3 := Xh BK238.out 3))
 (try simp only [Act.put, Xa, Xb, Xc])
 go_cut [] (fun wc => ∃ (kq : Nat) (x239000_1 : Int), Aside0 (gatherumref03_Of.j0 kq (Go.bits .and .i64 a0 7) x239000_1 0 0 1 = some (r1, r2, r3, r4)) ∧ Aside0 (kq ≤ k) ∧ Aside0 (wc.heap[gb237]? = some (.cells #[.int .i64 0, .int .i64 0, .int .i64 0, .int .i64 0] 96 (0, 0))) ∧ Aside0 (wc.heap[gb238]? = some (.cells #[.int .i64 x239000_1, .int .i64 0, .int .i64 0, .int .i64 1] 96 (0, 0))) ∧ Aside0 (Below w.heap.size w wc))
 case first =>
  have H := HC2.out
  clear HC2
  by_cases c7 : (Go.bits .and .i64 a0 7) ≥ 4
  ·rw [if_pos c7] at H
   have c7b0 : decide (4 ≤ (Go.bits .and .i64 a0 7)) = Zt := decide_eq_true c7
   clear c7
   (first | rw [c7b0] | (simp only [i64_w, i32_w]; rw [c7b0]) | skip)
   have H' := Za H
   clear H
   have hnb8 := NB238_237.out
   have hnc8 := NB237_238.out
   have hcz9_0 : w4.cell? ⟨gb238, 0, none⟩ = some (.int .i64 0) := (Xd BK238.out 0).trans rfl
   have hcz9_1 : w4.cell? ⟨gb238, 1, none⟩ = some (.int .i64 0) := (Xd BK238.out 1).trans rfl
   have hcz9_2 : w4.cell? ⟨gb238, 2, none⟩ = some (.int .i64 0) := (Xd BK238.out 2).trans rfl
   have hcz9_3 : w4.cell? ⟨gb238, 3, none⟩ = some (.int .i64 0) := (Xd BK238.out 3).trans rfl
   have hfz9_0 := Xh BK238.out 0
   have hfz9_1 := Xh BK238.out 1
   have hfz9_2 := Xh BK238.out 2
   have hfz9_3 := Xh BK238.out 3
   go_wp2
   go_meet
   case rel => exact ⟨_, ((-1)), H', ⟨by first | omega | exact Nat.le_refl _⟩, ⟨by (with_reducible repeat (first | refine Xe ?_ _ | refine Xg ?_ | refine Xf ?_ _)); refine blk_far ?_ NB237_238.out _; (with_reducible repeat (first | refine Xe ?_ _ | refine Xg ?_ | refine Xf ?_ _)); refine blk_far ?_ NB237_238.out _; (with_reducible repeat (first | refine Xe ?_ _ | refine Xg ?_ | refine Xf ?_ _)); refine blk_far ?_ NB237_238.out _; (with_reducible repeat (first | refine Xe ?_ _ | refine Xg ?_ | refine Xf ?_ _)); refine blk_far ?_ NB237_238.out _; (with_reducible repeat (first | refine Xe ?_ _ | refine Xg ?_ | refine Xf ?_ _)); refine blk_far ?_ NB237_238.out _; (with_reducible repeat (first | refine Xe ?_ _ | refine Xg ?_ | refine Xf ?_ _)); exact BK237.out⟩, ⟨by (with_reducible repeat (first | refine Xe ?_ _ | refine Xg ?_ | refine Xf ?_ _)); refine blk_put (cs := #[.int .i64 1, .int .i64 0, .int .i64 0, .int .i64 1]) ?_ 0 _ rfl; (with_reducible repeat (first | refine Xe ?_ _ | refine Xg ?_ | refine Xf ?_ _)); refine blk_put (cs := #[.int .i64 1, .int .i64 0, .int .i64 0, .int .i64 0]) ?_ 3 _ rfl; (with_reducible repeat (first | refine Xe ?_ _ | refine Xg ?_ | refine Xf ?_ _)); refine blk_put (cs := #[.int .i64 1, .int .i64 0, .int .i64 0, .int .i64 0]) ?_ 2 _ rfl; (with_reducible repeat (first | refine Xe ?_ _ | refine Xg ?_ | refine Xf ?_ _)); refine blk_put (cs := #[.int .i64 1, .int .i64 0, .int .i64 0, .int .i64 0]) ?_ 1 _ rfl; (with_reducible repeat (first | refine Xe ?_ _ | refine Xg ?_ | refine Xf ?_ _)); refine blk_put (cs := #[.int .i64 0, .int .i64 0, .int .i64 0, .int .i64 0]) ?_ 0 _ rfl; (with_reducible repeat (first | refine Xe ?_ _ | refine Xg ?_ | refine Xf ?_ _)); exact BK238.out⟩, ⟨by repeat (first | (with_reducible first | exact HB.out | apply below_alloc | apply pw_below_drewN | apply below_drew1 | refine below_set ?_ GE237.out | refine below_set ?_ GE238.out) | exact HB.out)⟩⟩
  ·rw [if_neg c7] at H
   have c7b0 : decide (4 ≤ (Go.bits .and .i64 a0 7)) = Zf := decide_eq_false c7
   clear c7
   (first | rw [c7b0] | (simp only [i64_w, i32_w]; rw [c7b0]) | skip)
   have H' := Za H
   clear H
   go_wp2
   go_meet
   case rel => exact ⟨_, (1), H', ⟨by first | omega | exact Nat.le_refl _⟩, ⟨by (with_reducible repeat (first | refine Xe ?_ _ | refine Xg ?_ | refine Xf ?_ _)); refine blk_far ?_ NB237_238.out _; (with_reducible repeat (first | refine Xe ?_ _ | refine Xg ?_ | refine Xf ?_ _)); refine blk_far ?_ NB237_238.out _; (with_reducible repeat (first | refine Xe ?_ _ | refine Xg ?_ | refine Xf ?_ _)); refine blk_far ?_ NB237_238.out _; (with_reducible repeat (first | refine Xe ?_ _ | refine Xg ?_ | refine Xf ?_ _)); refine blk_far ?_ NB237_238.out _; (with_reducible repeat (first | refine Xe ?_ _ | refine Xg ?_ | refine Xf ?_ _)); exact BK237.out⟩, ⟨by (with_reducible repeat (first | refine Xe ?_ _ | refine Xg ?_ | refine Xf ?_ _)); refine blk_put (cs := #[.int .i64 1, .int .i64 0, .int .i64 0, .int .i64 0]) ?_ 3 _ rfl; (with_reducible repeat (first | refine Xe ?_ _ | refine Xg ?_ | refine Xf ?_ _)); refine blk_put (cs := #[.int .i64 1, .int .i64 0, .int .i64 0, .int .i64 0]) ?_ 2 _ rfl; (with_reducible repeat (first | refine Xe ?_ _ | refine Xg ?_ | refine Xf ?_ _)); refine blk_put (cs := #[.int .i64 1, .int .i64 0, .int .i64 0, .int .i64 0]) ?_ 1 _ rfl; (with_reducible repeat (first | refine Xe ?_ _ | refine Xg ?_ | refine Xf ?_ _)); refine blk_put (cs := #[.int .i64 0, .int .i64 0, .int .i64 0, .int .i64 0]) ?_ 0 _ rfl; (with_reducible repeat (first | refine Xe ?_ _ | refine Xg ?_ | refine Xf ?_ _)); exact BK238.out⟩, ⟨by repeat (first | (with_reducible first | exact HB.out | apply below_alloc | apply pw_below_drewN | apply below_drew1 | refine below_set ?_ GE237.out | refine below_set ?_ GE238.out) | exact HB.out)⟩⟩
 case rest =>
  clear HC2
  try clear p2
  try clear c5
  try clear c7
  try clear c7b0
  try clear c8
  try clear hcz6_0
  try clear hcz6_1
  try clear hcz6_2
  try clear hcz6_3
  try clear hcz9_0
  try clear hcz9_1
  try clear hcz9_2
  try clear hcz9_3
  try clear hfz6_0
  try clear hfz6_1
  try clear hfz6_2
  try clear hfz6_3
  try clear hfz9_0
  try clear hfz9_1
  try clear hfz9_2
  try clear hfz9_3
  obtain ⟨kq, x239000_1, HA, HJ1, BK237, BK238, HB⟩ := hcut
  cases kq with
  | zero => exact absurd HA.out (by simp [gatherumref03_Of.j0])
  | succ kj1 =>
   have H := HA.out
   clear HA
   simp only [gatherumref03_Of.j0] at H
   have H' := Za H
   clear H
   go_wp2
   go_loopg [4] kj1 (fun kq v4 w' => ∃ (x4_2 : Int) (x239000_2 : Int) (x239001_2 : Int) (x239002_2 : Int) (x239003_2 : Int), v4 = .int .i64 x4_2 ∧ Aside0 (gatherumref03_Of.l0 kq (Go.bits .and .i64 a0 7) x4_2 x239000_2 x239001_2 x239002_2 x239003_2 = some (r1, r2, r3, r4)) ∧ Aside0 (kq ≤ kj1) ∧ Aside0 (w'.heap[gb237]? = some (.cells #[.int .i64 0, .int .i64 0, .int .i64 0, .int .i64 0] 96 (0, 0))) ∧ Aside0 (w'.heap[gb238]? = some (.cells #[.int .i64 x239000_2, .int .i64 x239001_2, .int .i64 x239002_2, .int .i64 x239003_2] 96 (0, 0))) ∧ Aside0 (Below w.heap.size w w'))
   case atStart => exact ⟨(0), (x239000_1), (0), (0), (1), (by first | rfl | (simp; done) | (simp [*]; done)), H', ⟨Nat.le_refl _⟩, ⟨by (with_reducible repeat (first | refine Xe ?_ _ | refine Xg ?_ | refine Xf ?_ _)); exact BK237.out⟩, ⟨by (with_reducible repeat (first | refine Xe ?_ _ | refine Xg ?_ | refine Xf ?_ _)); exact BK238.out⟩, ⟨by repeat (first | (with_reducible first | exact HB.out | apply below_alloc | apply pw_below_drewN | apply below_drew1 | refine below_set ?_ GE237.out | refine below_set ?_ GE238.out) | exact HB.out)⟩⟩
   case round =>
    clear H'
    try clear p2
    try clear c5
    try clear c7
    try clear c7b0
    try clear c8
    try clear hcz6_0
    try clear hcz6_1
    try clear hcz6_2
    try clear hcz6_3
    try clear hcz9_0
    try clear hcz9_1
    try clear hcz9_2
    try clear hcz9_3
    try clear hfz6_0
    try clear hfz6_1
    try clear hfz6_2
    try clear hfz6_3
    try clear hfz9_0
    try clear hfz9_1
    try clear hfz9_2
    try clear hfz9_3
    try clear p2
    obtain ⟨x4_2, x239000_2, x239001_2, x239002_2, x239003_2, rfl, HA, HK2, BK237, BK238, HB⟩ := hrel
    cases gk with
    | zero => exact absurd HA.out (by simp [gatherumref03_Of.l0])
    | succ k2 =>
     have H := HA.out
     clear HA
     simp only [gatherumref03_Of.l0] at H
     by_cases c10 : x4_2 < (Int.tmod (Go.bits .and .i64 a0 7) 4)
     ·rw [if_pos c10] at H
      have c10b0 : decide (x4_2 < (Int.tmod (Go.bits .and .i64 a0 7) 4)) = Zt := decide_eq_true c10
      clear c10
      have H' := Za H
      clear H
      have hnb11 := NB238_237.out
      have hnc11 := NB237_238.out
      have hcz12_0 : wr.cell? ⟨gb238, 0, none⟩ = some (.int .i64 x239000_2) := (Xd BK238.out 0).trans rfl
      have hcz12_1 : wr.cell? ⟨gb238, 1, none⟩ = some (.int .i64 x239001_2) := (Xd BK238.out 1).trans rfl
      have hcz12_2 : wr.cell? ⟨gb238, 2, none⟩ = some (.int .i64 x239002_2) := (Xd BK238.out 2).trans rfl
      have hcz12_3 : wr.cell? ⟨gb238, 3, none⟩ = some (.int .i64 x239003_2) := (Xd BK238.out 3).trans rfl
      have hfz12_0 := Xh BK238.out 0
      have hfz12_1 := Xh BK238.out 1
      have hfz12_2 := Xh BK238.out 2
      have hfz12_3 := Xh BK238.out 3
      go_wp2
      go_roundg k2
      case measure => have := HJ1.out; have := HK2.out; omega
      case rel => exact ⟨(wrap64 (x4_2 + 1)), (wrap64 (-x239001_2)), (x239000_2), (wrap64 (-x239003_2)), (x239002_2), (by first | rfl | (simp; done) | (simp [*]; done)), H', ⟨by have := HJ1.out; have := HK2.out; omega⟩, ⟨by (with_reducible repeat (first | refine Xe ?_ _ | refine Xg ?_ | refine Xf ?_ _)); refine blk_far ?_ NB237_238.out _; (with_reducible repeat (first | refine Xe ?_ _ | refine Xg ?_ | refine Xf ?_ _)); refine blk_far ?_ NB237_238.out _; (with_reducible repeat (first | refine Xe ?_ _ | refine Xg ?_ | refine Xf ?_ _)); refine blk_far ?_ NB237_238.out _; (with_reducible repeat (first | refine Xe ?_ _ | refine Xg ?_ | refine Xf ?_ _)); refine blk_far ?_ NB237_238.out _; (with_reducible repeat (first | refine Xe ?_ _ | refine Xg ?_ | refine Xf ?_ _)); exact BK237.out⟩, ⟨by (with_reducible repeat (first | refine Xe ?_ _ | refine Xg ?_ | refine Xf ?_ _)); refine blk_put (cs := #[.int .i64 (wrap64 (-x239001_2)), .int .i64 x239000_2, .int .i64 (wrap64 (-x239003_2)), .int .i64 x239003_2]) ?_ 3 _ rfl; (with_reducible repeat (first | refine Xe ?_ _ | refine Xg ?_ | refine Xf ?_ _)); refine blk_put (cs := #[.int .i64 (wrap64 (-x239001_2)), .int .i64 x239000_2, .int .i64 x239002_2, .int .i64 x239003_2]) ?_ 2 _ rfl; (with_reducible repeat (first | refine Xe ?_ _ | refine Xg ?_ | refine Xf ?_ _)); refine blk_put (cs := #[.int .i64 (wrap64 (-x239001_2)), .int .i64 x239001_2, .int .i64 x239002_2, .int .i64 x239003_2]) ?_ 1 _ rfl; (with_reducible repeat (first | refine Xe ?_ _ | refine Xg ?_ | refine Xf ?_ _)); refine blk_put (cs := #[.int .i64 x239000_2, .int .i64 x239001_2, .int .i64 x239002_2, .int .i64 x239003_2]) ?_ 0 _ rfl; (with_reducible repeat (first | refine Xe ?_ _ | refine Xg ?_ | refine Xf ?_ _)); exact BK238.out⟩, ⟨by repeat (first | (with_reducible first | exact HB.out | apply below_alloc | apply pw_below_drewN | apply below_drew1 | refine below_set ?_ GE237.out | refine below_set ?_ GE238.out) | exact HB.out)⟩⟩
     ·rw [if_neg c10] at H
      have c10b0 : decide (x4_2 < (Int.tmod (Go.bits .and .i64 a0 7) 4)) = Zf := decide_eq_false c10
      clear c10
      simp only [Option.some.injEq, Prod.mk.injEq] at H
      obtain ⟨rfl, rfl, rfl, rfl⟩ := H
      have hnb13 := NB238_237.out
      have hnc13 := NB237_238.out
      have hcz14_0 : wr.cell? ⟨gb238, 0, none⟩ = some (.int .i64 x239000_2) := (Xd BK238.out 0).trans rfl
      have hcz14_1 : wr.cell? ⟨gb238, 1, none⟩ = some (.int .i64 x239001_2) := (Xd BK238.out 1).trans rfl
      have hcz14_2 : wr.cell? ⟨gb238, 2, none⟩ = some (.int .i64 x239002_2) := (Xd BK238.out 2).trans rfl
      have hcz14_3 : wr.cell? ⟨gb238, 3, none⟩ = some (.int .i64 x239003_2) := (Xd BK238.out 3).trans rfl
      have hfz14_0 := Xh BK238.out 0
      have hfz14_1 := Xh BK238.out 1
      have hfz14_2 := Xh BK238.out 2
      have hfz14_3 := Xh BK238.out 3
      have hcz15_0 : wr.cell? ⟨gb237, 0, none⟩ = some (.int .i64 0) := (Xd BK237.out 0).trans rfl
      have hcz15_1 : wr.cell? ⟨gb237, 1, none⟩ = some (.int .i64 0) := (Xd BK237.out 1).trans rfl
      have hcz15_2 : wr.cell? ⟨gb237, 2, none⟩ = some (.int .i64 0) := (Xd BK237.out 2).trans rfl
      have hcz15_3 : wr.cell? ⟨gb237, 3, none⟩ = some (.int .i64 0) := (Xd BK237.out 3).trans rfl
      have hfz15_0 := Xh BK237.out 0
      have hfz15_1 := Xh BK237.out 1
      have hfz15_2 := Xh BK237.out 2
      have hfz15_3 := Xh BK237.out 3
      go_wp2
      refine bodyPost_ret (results_cell_row rfl _ _ gb237 96 #[.int .i64 x239000_2, .int .i64 x239001_2, .int .i64 x239002_2, .int .i64 x239003_2] (0, 0) _ rfl (by (with_reducible repeat (first | refine Xe ?_ _ | refine Xg ?_ | refine Xf ?_ _)); refine blk_put (cs := #[.int .i64 x239000_2, .int .i64 x239001_2, .int .i64 x239002_2, .int .i64 0]) ?_ 3 _ rfl; (with_reducible repeat (first | refine Xe ?_ _ | refine Xg ?_ | refine Xf ?_ _)); refine blk_put (cs := #[.int .i64 x239000_2, .int .i64 x239001_2, .int .i64 0, .int .i64 0]) ?_ 2 _ rfl; (with_reducible repeat (first | refine Xe ?_ _ | refine Xg ?_ | refine Xf ?_ _)); refine blk_put (cs := #[.int .i64 x239000_2, .int .i64 0, .int .i64 0, .int .i64 0]) ?_ 1 _ rfl; (with_reducible repeat (first | refine Xe ?_ _ | refine Xg ?_ | refine Xf ?_ _)); refine blk_put (cs := #[.int .i64 0, .int .i64 0, .int .i64 0, .int .i64 0]) ?_ 0 _ rfl; (with_reducible repeat (first | refine Xe ?_ _ | refine Xg ?_ | refine Xf ?_ _)); exact BK237.out) Try.underlying96 rfl (by kernel_rfl)) rfl ?_
      exact ⟨by first | rfl | (simp [errW_none, errW_some] <;> rfl) | (simp [*, errW_none, errW_some] <;> rfl), by repeat (first | (with_reducible first | exact HB.out | apply below_alloc | apply pw_below_drewN | apply below_drew1 | refine below_set ?_ GE237.out | refine below_set ?_ GE238.out) | exact HB.out)⟩

/-! ### gatherumref04_Do: function 17 -/
def gatherumref04_Do.f (k : Nat) (a0_0 : Int) (a0_1 : Int) (a0_2 : Int) (a1_0 : Int) (a1_1 : Int) : Option (Int × Int) := (gatherumref03_Of.f k a0_0).bind fun bt242 => ((gatherumref03_Do.f bt242.1 bt242.2.1 bt242.2.2.1 bt242.2.2.2 a1_0 a1_1).bind fun bt246 => (some (wrap64 (bt246.1 + a0_1), wrap64 (bt246.2 + a0_2))))
theorem gatherumref04_Do.mono : ∀ a0 a1 a2 a3 a4 k, LeO (gatherumref04_Do.f k a0 a1 a2 a3 a4) (gatherumref04_Do.f (k + 1) a0 a1 a2 a3 a4) := by
 intro a0 a1 a2 a3 a4 k
 unfold gatherumref04_Do.f
 repeat' first
   | (with_reducible exact gatherumref03_Of.mono _ _)
   | (with_reducible exact LeO.refl _)
   | (with_reducible exact LeO.none _)
   | (with_reducible refine LeO.ite ?_ ?_)
   | (with_reducible refine LeO.bind ?_ (fun _ => ?_))
   | exact gatherumref03_Of.mono _ _
   | exact LeO.none _
   | refine LeO.ite ?_ ?_
   | refine LeO.bind ?_ (fun _ => ?_)
def gatherumref04_Do.T1 : Bool × List (List Nat × List Nat) := (Zt, [([], []), ([0], [0]), ([1], [1]), ([], []), ([3], [3]), ([], []), ([5], [5]), ([2, 4, 6, 2], [2, 4, 6]), ([7], [7]), ([8], [8]), ([8], [8]), ([9, 7, 0, 1, 2, 3, 4, 5, 6, 7, 8, 9], [9]), ([10, 11, 0, 1, 2, 3, 4, 5, 6, 7, 8, 9, 10, 11], [10])])
def gatherumref04_Do.B1 : List Nat := [0, 1, 3, 0, 8, 0, 32, 127, 255, 511, 511, 1023, 4095]
theorem gatherumref04_Do.tab1 : rtab .any (opsOf Try.f17 1) = gatherumref04_Do.T1 := by kernel_rfl
theorem gatherumref04_Do.bits1 : waitsOk gatherumref04_Do.T1.2 gatherumref04_Do.B1 = Zt := by kernel_rfl
set_option maxHeartbeats 8000000 in
set_option maxRecDepth 100000 in
theorem gatherumref04_Do.calls (k : Nat) (a0_0 : Int) (a0_1 : Int) (a0_2 : Int) (a1_0 : Int) (a1_1 : Int) (r1 : Int) (r2 : Int) (w : World) (h : gatherumref04_Do.f k a0_0 a0_1 a0_2 a1_0 a1_1 = some (r1, r2)) :
  Calls Try.prog 17 #[.agg #[.int .i64 a0_0, .int .i64 a0_1, .int .i64 a0_2], .agg #[.int .i64 a1_0, .int .i64 a1_1]] w fun e w' => e = .returned (.agg #[.int .i64 r1, .int .i64 r2]) ∧ Below w.heap.size w w' := by
 have hu32 := Try.underlying32
 have hu23 := Try.underlying23
 have HB := Za (Below.refl w.heap.size w)
 have H : ((gatherumref03_Of.f k a0_0).bind fun bt242 => ((gatherumref03_Do.f bt242.1 bt242.2.1 bt242.2.2.1 bt242.2.2.2 a1_0 a1_1).bind fun bt246 => (some (wrap64 (bt246.1 + a0_1), wrap64 (bt246.2 + a0_2))))) = some (r1, r2) := h
 clear h
 replace H := Option.bind_eq_some_iff.mp H
 obtain ⟨⟨t242, t243, t244, t245⟩, A30, H⟩ := H
 replace H : ((gatherumref03_Do.f t242 t243 t244 t245 a1_0 a1_1).bind fun bt246 => (some (wrap64 (bt246.1 + a0_1), wrap64 (bt246.2 + a0_2)))) = some (r1, r2) := H
 have A3 := Za A30
 clear A30
 replace H := Option.bind_eq_some_iff.mp H
 obtain ⟨⟨t246, t247⟩, A40, H⟩ := H
 replace H : (some (wrap64 (t246 + a0_1), wrap64 (t247 + a0_2))) = some (r1, r2) := H
 have A4 := Za A40
 clear A40
 simp only [Option.some.injEq, Prod.mk.injEq] at H
 obtain ⟨rfl, rfl⟩ := H
 go_enter Try.func17, Try.ntmps17
 try go_wp2_with (first | ((with_reducible refine gate_dst (N := 2) rfl ?_); refine box_event ?hg (N := 2) ?hd (cs := #[.int .i64 a0_0, .int .i64 a0_1, .int .i64 a0_2]) (t := 32) ?hr ?_; (case hd => rfl); (case hg => rfl); (case hr => first | (go_simp; done) | (go_simp; rfl)); intro gb239 hg w5 hbox hb; have n0_ := Za (below_step (hb_9 HB.out) hb); have n1_ := Za (hbox); have n2_ := Za ((by rw [hg]; exact (below_size (hb_9 HB.out)) : w.heap.size ≤ gb239)); have n3_ := Za ((by rw [hg]; exact (below_size (hb_9 HB.out)) : w.heap.size ≤ gb239)); clear HB; have HB := n0_; have BK239 := n1_; have GW239 := n2_; have GE239 := n3_; clear n0_ n1_ n2_ n3_; clear hb hbox hg) | ((with_reducible refine gate_dst (N := 3) rfl ?_); refine box_event ?hg (N := 3) ?hd (cs := #[.int .i64 a1_0, .int .i64 a1_1]) (t := 23) ?hr ?_; (case hd => rfl); (case hg => rfl); (case hr => first | (go_simp; done) | (go_simp; rfl)); intro gb240 hg w6 hbox hb; have n0_ := Za (Xi (g := gb239) (o := .cells #[.int .i64 a0_0, .int .i64 a0_1, .int .i64 a0_2] 32 (0, 0)) (bb_9 BK239.out) hb); have n1_ := Za (below_step (hb_9 HB.out) hb); have n2_ := Za (hbox); have n3_ := Za ((by rw [hg]; exact (below_size (hb_9 HB.out)) : w.heap.size ≤ gb240)); have n4_ := Za ((by rw [hg]; exact (below_size (hb_9 HB.out)) : w.heap.size ≤ gb240)); have n5_ := Za ((by rw [hg]; exact Nat.ne_of_lt (blk_lt (g := gb239) (o := .cells #[.int .i64 a0_0, .int .i64 a0_1, .int .i64 a0_2] 32 (0, 0)) (bb_9 BK239.out)) : gb239 ≠ gb240)); have n6_ := Za ((by rw [hg]; exact Nat.ne_of_gt (blk_lt (g := gb239) (o := .cells #[.int .i64 a0_0, .int .i64 a0_1, .int .i64 a0_2] 32 (0, 0)) (bb_9 BK239.out)) : gb240 ≠ gb239)); clear BK239; clear HB; have BK239 := n0_; have HB := n1_; have BK240 := n2_; have GW240 := n3_; have GE240 := n4_; have NB239_240 := n5_; have NB240_239 := n6_; clear n0_ n1_ n2_ n3_ n4_ n5_ n6_; clear hb hbox hg) | ((with_reducible refine gate_dst (N := 4) rfl ?_); refine box_event ?hg (N := 4) ?hd (cs := #[.int .i64 0, .int .i64 0]) (t := 23) ?hr ?_; (case hd => rfl); (case hg => rfl); (case hr => first | (go_simp; done) | (go_simp; rfl)); intro gb241 hg w7 hbox hb; have n0_ := Za (Xi (g := gb239) (o := .cells #[.int .i64 a0_0, .int .i64 a0_1, .int .i64 a0_2] 32 (0, 0)) (bb_9 BK239.out) hb); have n1_ := Za (Xi (g := gb240) (o := .cells #[.int .i64 a1_0, .int .i64 a1_1] 23 (0, 0)) (bb_9 BK240.out) hb); have n2_ := Za (below_step (hb_9 HB.out) hb); have n3_ := Za (hbox); have n4_ := Za ((by rw [hg]; exact (below_size (hb_9 HB.out)) : w.heap.size ≤ gb241)); have n5_ := Za ((by rw [hg]; exact (below_size (hb_9 HB.out)) : w.heap.size ≤ gb241)); have n6_ := Za ((by rw [hg]; exact Nat.ne_of_lt (blk_lt (g := gb239) (o := .cells #[.int .i64 a0_0, .int .i64 a0_1, .int .i64 a0_2] 32 (0, 0)) (bb_9 BK239.out)) : gb239 ≠ gb241)); have n7_ := Za ((by rw [hg]; exact Nat.ne_of_gt (blk_lt (g := gb239) (o := .cells #[.int .i64 a0_0, .int .i64 a0_1, .int .i64 a0_2] 32 (0, 0)) (bb_9 BK239.out)) : gb241 ≠ gb239)); have n8_ := Za ((by rw [hg]; exact Nat.ne_of_lt (blk_lt (g := gb240) (o := .cells #[.int .i64 a1_0, .int .i64 a1_1] 23 (0, 0)) (bb_9 BK240.out)) : gb240 ≠ gb241)); have n9_ := Za ((by rw [hg]; exact Nat.ne_of_gt (blk_lt (g := gb240) (o := .cells #[.int .i64 a1_0, .int .i64 a1_1] 23 (0, 0)) (bb_9 BK240.out)) : gb241 ≠ gb240)); clear BK239; clear BK240; clear HB; have BK239 := n0_; have BK240 := n1_; have HB := n2_; have BK241 := n3_; have GW241 := n4_; have GE241 := n5_; have NB239_241 := n6_; have NB241_239 := n7_; have NB240_241 := n8_; have NB241_240 := n9_; clear n0_ n1_ n2_ n3_ n4_ n5_ n6_ n7_ n8_ n9_; clear hb hbox hg))
 have n0_ := Za (Xg BK239.out)
 have n1_ := Za (Xg BK240.out)
 have n2_ := Za (Xg BK241.out)
 have n3_ := Za (below_drew1 HB.out)
 clear BK239
 clear BK240
 clear BK241
 clear HB
 have BK239 := n0_
 have BK240 := n1_
 have BK241 := n2_
 have HB := n3_
 clear n0_ n1_ n2_ n3_
 refine start_ (n := 13) (S := fun w' => w'.cell? ⟨gb239, 0, none⟩ = some (.int .i64 a0_0) ∧ w'.cell? ⟨gb239, 1, none⟩ = some (.int .i64 a0_1) ∧ w'.cell? ⟨gb239, 2, none⟩ = some (.int .i64 a0_2) ∧ w'.cell? ⟨gb240, 0, none⟩ = some (.int .i64 a1_0) ∧ w'.cell? ⟨gb240, 1, none⟩ = some (.int .i64 a1_1)) (ds := []) #[Zf,Zf,Zf,Zf,Zf,Zf,Zf,Zf,Zf,Zf,Zf,Zf,Zf] (by kernel_rfl) rfl rfl ⟨(Xd BK239.out 0).trans rfl, (Xd BK239.out 1).trans rfl, (Xd BK239.out 2).trans rfl, (Xd BK240.out 0).trans rfl, (Xd BK240.out 1).trans rfl⟩ (fun hHeld => ?_); refine with_tabW gatherumref04_Do.tab1 gatherumref04_Do.bits1 (fun HT_ HW_ => ?_)
 generalize w7.drew = w8 at BK239 BK240 BK241 HB hHeld ⊢
 refine pure_ (i := 0) (N := some 8) (v := ?_) (a' := ?_) #[Zt,Zf,Zf,Zf,Zf,Zf,Zf,Zf,Zf,Zf,Zf,Zf,Zf] rfl rfl (any_of HT_.out (by kernel_rfl)) (fun _ _ _ h => h) (Or.inl ⟨by rfl, ?_⟩) ?_ ?_
 rotate_left
 ·intro w'
  go_simp
  with_reducible rfl
 rotate_left
 ·simp only [Act.put, Xa, Xb, Xc, i64_w, i32_w]
  rfl
 refine pure_ (i := 3) (N := some 11) (v := ?_) (a' := ?_) #[Zt,Zf,Zf,Zt,Zf,Zf,Zf,Zf,Zf,Zf,Zf,Zf,Zf] rfl rfl (any_of HT_.out (by kernel_rfl)) (fun _ _ _ h => h) (Or.inl ⟨by rfl, ?_⟩) ?_ ?_
 rotate_left
 ·intro w'
  go_simp
  with_reducible rfl
 rotate_left
 ·simp only [Act.put, Xa, Xb, Xc, i64_w, i32_w]
  rfl
 refine pure_ (i := 5) (N := some 13) (v := ?_) (a' := ?_) #[Zt,Zf,Zf,Zt,Zf,Zt,Zf,Zf,Zf,Zf,Zf,Zf,Zf] rfl rfl (any_of HT_.out (by kernel_rfl)) (fun _ _ _ h => h) (Or.inl ⟨by rfl, ?_⟩) ?_ ?_
 rotate_left
 ·intro w'
  go_simp
  with_reducible rfl
 rotate_left
 ·simp only [Act.put, Xa, Xb, Xc, i64_w, i32_w]
  rfl
 refine take_ (i := 1) (N := some 9) (v := ?_) (a' := ?_) #[Zt,Zt,Zf,Zt,Zf,Zt,Zf,Zf,Zf,Zf,Zf,Zf,Zf] rfl rfl (take_ofW HT_.out HW_.out (by kernel_rfl)) (fun _ _ _ h => h) (Or.inl ⟨by rfl, ?_⟩) hHeld ?_ ?_
 rotate_left
 ·rintro w' ⟨s0, s1, s2, s3, s4⟩
  go_simp
  with_reducible rfl
 rotate_left
 ·simp only [Act.put, Xa, Xb, Xc, i64_w, i32_w]
  rfl
 refine take_ (i := 4) (N := some 12) (v := ?_) (a' := ?_) #[Zt,Zt,Zf,Zt,Zt,Zt,Zf,Zf,Zf,Zf,Zf,Zf,Zf] rfl rfl (take_ofW HT_.out HW_.out (by kernel_rfl)) (fun _ _ _ h => h) (Or.inl ⟨by rfl, ?_⟩) hHeld ?_ ?_
 rotate_left
 ·rintro w' ⟨s0, s1, s2, s3, s4⟩
  go_simp
  with_reducible rfl
 rotate_left
 ·simp only [Act.put, Xa, Xb, Xc, i64_w, i32_w]
  rfl
 refine take_ (i := 6) (N := some 14) (v := ?_) (a' := ?_) #[Zt,Zt,Zf,Zt,Zt,Zt,Zt,Zf,Zf,Zf,Zf,Zf,Zf] rfl rfl (take_ofW HT_.out HW_.out (by kernel_rfl)) (fun _ _ _ h => h) (Or.inl ⟨by rfl, ?_⟩) hHeld ?_ ?_
 rotate_left
 ·rintro w' ⟨s0, s1, s2, s3, s4⟩
  go_simp
  with_reducible rfl
 rotate_left
 ·simp only [Act.put, Xa, Xb, Xc, i64_w, i32_w]
  rfl
 refine one_ (i := 2) (N := some 10) #[Zt,Zt,Zt,Zt,Zt,Zt,Zt,Zf,Zf,Zf,Zf,Zf,Zf] rfl rfl (one_of HT_.out (by kernel_rfl)) (by decide) (fun K hK => ?_)
 refine goes_ Try.func71 (by kernel_rfl) rfl #[.int .i64 a0_0] (by rfl) rfl rfl (by (try simp only [List.map_toArray, List.map_cons, List.map_nil]); first | done | rfl | (simp only [List.length_drop, List.length_take]; rfl)) ?_
 with_reducible refine (gatherumref03_Of.calls k a0_0 t242 t243 t244 t245 _ A3.out).mono ?_
 rintro e w9 ⟨rfl, hb⟩
 refine ⟨_, rfl, ?_⟩
 have n0_ := Za (Xi (g := gb239) (o := .cells #[.int .i64 a0_0, .int .i64 a0_1, .int .i64 a0_2] 32 (0, 0)) (bb_9 BK239.out) hb)
 have n1_ := Za (Xi (g := gb240) (o := .cells #[.int .i64 a1_0, .int .i64 a1_1] 23 (0, 0)) (bb_9 BK240.out) hb)
 have n2_ := Za (Xi (g := gb241) (o := .cells #[.int .i64 0, .int .i64 0] 23 (0, 0)) (bb_9 BK241.out) hb)
 have n3_ := Za (below_step (hb_9 HB.out) hb)
 clear BK239
 clear BK240
 clear BK241
 clear HB
 have BK239 := n0_
 have BK240 := n1_
 have BK241 := n2_
 have HB := n3_
 clear n0_ n1_ n2_ n3_
 (try clear hb)
 (try clear hb2)
 (try clear hk)
 (try clear hi)
 refine hK.out _ _ ⟨(Xd BK239.out 0).trans rfl, (Xd BK239.out 1).trans rfl, (Xd BK239.out 2).trans rfl, (Xd BK240.out 0).trans rfl, (Xd BK240.out 1).trans rfl⟩ (fun hHeld => ?_)
 clear hK K
 refine norm_ (a' := ?_) ?_ ?_
 rotate_left
 ·show Act.put _ (some 10) _ = _
  simp only [Act.put, Xa, Xb, Xc, i64_w, i32_w]
  rfl
 refine one_ (i := 7) (N := some 15) #[Zt,Zt,Zt,Zt,Zt,Zt,Zt,Zt,Zf,Zf,Zf,Zf,Zf] rfl rfl (one_of HT_.out (by kernel_rfl)) (by decide) (fun K hK => ?_)
 refine goes_ Try.func70 (by kernel_rfl) rfl #[.agg #[.int .i64 t242, .int .i64 t243, .int .i64 t244, .int .i64 t245], .int .i64 a1_0, .int .i64 a1_1] (by rfl) rfl rfl (by (try simp only [List.map_toArray, List.map_cons, List.map_nil]); first | done | rfl | (simp only [List.length_drop, List.length_take]; rfl)) ?_
 with_reducible refine (gatherumref03_Do.calls t242 t243 t244 t245 a1_0 a1_1 t246 t247 _ A4.out).mono ?_
 rintro e w10 ⟨rfl, hb⟩
 refine ⟨_, rfl, ?_⟩
 have n0_ := Za (Xi (g := gb239) (o := .cells #[.int .i64 a0_0, .int .i64 a0_1, .int .i64 a0_2] 32 (0, 0)) (bb_9 BK239.out) hb)
 have n1_ := Za (Xi (g := gb240) (o := .cells #[.int .i64 a1_0, .int .i64 a1_1] 23 (0, 0)) (bb_9 BK240.out) hb)
 have n2_ := Za (Xi (g := gb241) (o := .cells #[.int .i64 0, .int .i64 0] 23 (0, 0)) (bb_9 BK241.out) hb)
 have n3_ := Za (below_step (hb_9 HB.out) hb)
 clear BK239
 clear BK240
 clear BK241
 clear HB
 have BK239 := n0_
 have BK240 := n1_
 have BK241 := n2_
 have HB := n3_
 clear n0_ n1_ n2_ n3_
 (try clear hb)
 (try clear hb2)
 (try clear hk)
 (try clear hi)
 refine hK.out _ _ ⟨(Xd BK239.out 0).trans rfl, (Xd BK239.out 1).trans rfl, (Xd BK239.out 2).trans rfl, (Xd BK240.out 0).trans rfl, (Xd BK240.out 1).trans rfl⟩ (fun hHeld => ?_)
 clear hK K
 refine norm_ (a' := ?_) ?_ ?_
 rotate_left
 ·show Act.put _ (some 15) _ = _
  simp only [Act.put, Xa, Xb, Xc, i64_w, i32_w]
  rfl
 refine pure_ (i := 8) (N := some 7) (v := ?_) (a' := ?_) #[Zt,Zt,Zt,Zt,Zt,Zt,Zt,Zt,Zt,Zf,Zf,Zf,Zf] rfl rfl (any_of HT_.out (by kernel_rfl)) (fun _ _ _ h => h) (Or.inl ⟨by rfl, ?_⟩) ?_ ?_
 rotate_left
 ·intro w'
  go_simp
  with_reducible rfl
 rotate_left
 ·simp only [Act.put, Xa, Xb, Xc, i64_w, i32_w]
  rfl
 refine pure_ (i := 9) (N := some 16) (v := ?_) (a' := ?_) #[Zt,Zt,Zt,Zt,Zt,Zt,Zt,Zt,Zt,Zt,Zf,Zf,Zf] rfl rfl (any_of HT_.out (by kernel_rfl)) (fun _ _ _ h => h) (Or.inl ⟨by rfl, ?_⟩) ?_ ?_
 rotate_left
 ·intro w'
  go_simp
  with_reducible rfl
 rotate_left
 ·simp only [Act.put, Xa, Xb, Xc, i64_w, i32_w]
  rfl
 refine pure_ (i := 10) (N := some 17) (v := ?_) (a' := ?_) #[Zt,Zt,Zt,Zt,Zt,Zt,Zt,Zt,Zt,Zt,Zt,Zf,Zf] rfl rfl (any_of HT_.out (by kernel_rfl)) (fun _ _ _ h => h) (Or.inl ⟨by rfl, ?_⟩) ?_ ?_
 rotate_left
 ·intro w'
  go_simp
  with_reducible rfl
 rotate_left
 ·simp only [Act.put, Xa, Xb, Xc, i64_w, i32_w]
  rfl
 refine pure_ (i := 11) (N := some 5) (v := ?_) (a' := ?_) #[Zt,Zt,Zt,Zt,Zt,Zt,Zt,Zt,Zt,Zt,Zt,Zt,Zf] rfl rfl (any_of HT_.out (by kernel_rfl)) (fun _ _ _ h => h) (Or.inl ⟨by rfl, ?_⟩) ?_ ?_
 rotate_left
 ·intro w'
  go_simp
  with_reducible rfl
 rotate_left
 ·simp only [Act.put, Xa, Xb, Xc, i64_w, i32_w]
  rfl
 refine pure_ (i := 12) (N := some 6) (v := ?_) (a' := ?_) #[Zt,Zt,Zt,Zt,Zt,Zt,Zt,Zt,Zt,Zt,Zt,Zt,Zt] rfl rfl (any_of HT_.out (by kernel_rfl)) (fun _ _ _ h => h) (Or.inl ⟨by rfl, ?_⟩) ?_ ?_
 rotate_left
 ·intro w'
  go_simp
  with_reducible rfl
 rotate_left
 ·simp only [Act.put, Xa, Xb, Xc, i64_w, i32_w]
  rfl
 refine done_ (done_of HT_.out (by kernel_rfl)) ?_
 have hnb11 := NB239_240.out
 have hnc11 := NB240_239.out
 have hnb12 := NB239_241.out
 have hnc12 := NB241_239.out
 have hcz13_0 : w10.cell? ⟨gb239, 0, none⟩ = some (.int .i64 a0_0) := (Xd BK239.out 0).trans rfl
 have hcz13_1 : w10.cell? ⟨gb239, 1, none⟩ = some (.int .i64 a0_1) := (Xd BK239.out 1).trans rfl
 have hcz13_2 : w10.cell? ⟨gb239, 2, none⟩ = some (.int .i64 a0_2) := (Xd BK239.out 2).trans rfl
 have hfz13_0 := Xh BK239.out 0
 have hfz13_1 := Xh BK239.out 1
 have hfz13_2 := Xh BK239.out 2
 have hnb14 := NB241_240.out
 have hnc14 := NB240_241.out
 have hcz15_0 : w10.cell? ⟨gb241, 0, none⟩ = some (.int .i64 0) := (Xd BK241.out 0).trans rfl
 have hcz15_1 : w10.cell? ⟨gb241, 1, none⟩ = some (.int .i64 0) := (Xd BK241.out 1).trans rfl
 have hfz15_0 := Xh BK241.out 0
 have hfz15_1 := Xh BK241.out 1
 try go_wp2
 refine bodyPost_ret (results_cell_row rfl _ _ gb241 23 #[.int .i64 (wrap64 (t246 + a0_1)), .int .i64 (wrap64 (t247 + a0_2))] (0, 0) _ rfl (by (with_reducible repeat (first | refine Xe ?_ _ | refine Xg ?_ | refine Xf ?_ _)); refine blk_put (cs := #[.int .i64 (wrap64 (t246 + a0_1)), .int .i64 0]) ?_ 1 _ rfl; (with_reducible repeat (first | refine Xe ?_ _ | refine Xg ?_ | refine Xf ?_ _)); refine blk_put (cs := #[.int .i64 0, .int .i64 0]) ?_ 0 _ rfl; (with_reducible repeat (first | refine Xe ?_ _ | refine Xg ?_ | refine Xf ?_ _)); exact BK241.out) Try.underlying23 rfl (by kernel_rfl)) rfl ?_
 exact ⟨by first | rfl | (simp [errW_none, errW_some] <;> rfl) | (simp [*, errW_none, errW_some] <;> rfl), by repeat (first | (with_reducible first | exact HB.out | apply below_alloc | apply pw_below_drewN | apply below_drew1 | refine below_set ?_ GE239.out | refine below_set ?_ GE240.out | refine below_set ?_ GE241.out) | exact HB.out)⟩

/-! ### gatherumref04_low: function 72 -/
def gatherumref04_low.f (a0 : Int) (a1 : Int) : Option (Int) := if a0 < a1 then (some a0) else (some a1)
set_option maxHeartbeats 8000000 in
set_option maxRecDepth 100000 in
theorem gatherumref04_low.calls (a0 : Int) (a1 : Int) (r : Int) (w : World) (h : gatherumref04_low.f a0 a1 = some r) :
  Calls Try.prog 72 #[.int .i64 a0, .int .i64 a1] w fun e w' => e = .returned (.int .i64 r) ∧ Drawn0 w w' := by
 have H : (if a0 < a1 then (some a0) else (some a1)) = some r := h
 clear h
 by_cases c3 : a0 < a1
 ·rw [if_pos c3] at H
  have c3b0 : decide (a0 < a1) = Zt := decide_eq_true c3
  clear c3
  obtain rfl := Option.some.inj H
  go_enter Try.func72, Try.ntmps72
  go_wp2
  go_ret
  exact ⟨by first | rfl | (simp; done) | (simp [*]; done), by repeat (first | exact Drawn0.refl _ | apply Drawn0.step)⟩
 ·rw [if_neg c3] at H
  have c3b0 : decide (a0 < a1) = Zf := decide_eq_false c3
  clear c3
  obtain rfl := Option.some.inj H
  go_enter Try.func72, Try.ntmps72
  go_wp2
  go_ret
  exact ⟨by first | rfl | (simp; done) | (simp [*]; done), by repeat (first | exact Drawn0.refl _ | apply Drawn0.step)⟩

/-! ### gatherumref04_high: function 73 -/
def gatherumref04_high.f (a0 : Int) (a1 : Int) : Option (Int) := if a0 > a1 then (some a0) else (some a1)
set_option maxHeartbeats 8000000 in
set_option maxRecDepth 100000 in
theorem gatherumref04_high.calls (a0 : Int) (a1 : Int) (r : Int) (w : World) (h : gatherumref04_high.f a0 a1 = some r) :
  Calls Try.prog 73 #[.int .i64 a0, .int .i64 a1] w fun e w' => e = .returned (.int .i64 r) ∧ Drawn0 w w' := by
 have H : (if a0 > a1 then (some a0) else (some a1)) = some r := h
 clear h
 by_cases c3 : a0 > a1
 ·rw [if_pos c3] at H
  have c3b0 : decide (a1 < a0) = Zt := decide_eq_true c3
  clear c3
  obtain rfl := Option.some.inj H
  go_enter Try.func73, Try.ntmps73
  go_wp2
  go_ret
  exact ⟨by first | rfl | (simp; done) | (simp [*]; done), by repeat (first | exact Drawn0.refl _ | apply Drawn0.step)⟩
 ·rw [if_neg c3] at H
  have c3b0 : decide (a1 < a0) = Zf := decide_eq_false c3
  clear c3
  obtain rfl := Option.some.inj H
  go_enter Try.func73, Try.ntmps73
  go_wp2
  go_ret
  exact ⟨by first | rfl | (simp; done) | (simp [*]; done), by repeat (first | exact Drawn0.refl _ | apply Drawn0.step)⟩

/-! ### gatherumref04_Box: function 20 -/
def gatherumref04_Box.f (k : Nat) (a0_0 : Int) (a0_1 : Int) (a0_2 : Int) (a1_0 : Int) (a1_1 : Int) (a1_2 : Int) (a1_3 : Int) : Option (Int × Int × Int × Int) := (gatherumref04_Do.f k a0_0 a0_1 a0_2 a1_0 a1_1).bind fun bt251 => ((gatherumref04_Do.f k a0_0 a0_1 a0_2 a1_2 a1_3).bind fun bt254 => ((gatherumref04_low.f bt251.1 bt254.1).bind fun t257 => ((gatherumref04_low.f bt251.2 bt254.2).bind fun t258 => ((gatherumref04_high.f bt251.1 bt254.1).bind fun t259 => ((gatherumref04_high.f bt251.2 bt254.2).bind fun t260 => (some (t257, t258, t259, t260)))))))
theorem gatherumref04_Box.mono : ∀ a0 a1 a2 a3 a4 a5 a6 k, LeO (gatherumref04_Box.f k a0 a1 a2 a3 a4 a5 a6) (gatherumref04_Box.f (k + 1) a0 a1 a2 a3 a4 a5 a6) := by
 intro a0 a1 a2 a3 a4 a5 a6 k
 unfold gatherumref04_Box.f
 repeat' first
   | (with_reducible exact gatherumref04_Do.mono _ _ _ _ _ _)
   | (with_reducible exact LeO.refl _)
   | (with_reducible exact LeO.none _)
   | (with_reducible refine LeO.ite ?_ ?_)
   | (with_reducible refine LeO.bind ?_ (fun _ => ?_))
   | exact gatherumref04_Do.mono _ _ _ _ _ _
   | exact LeO.none _
   | refine LeO.ite ?_ ?_
   | refine LeO.bind ?_ (fun _ => ?_)
def gatherumref04_Box.T3 : Bool × List (List Nat × List Nat) := (Zt, [([], []), ([0], [0]), ([], []), ([2], [2]), ([1, 3], [1, 3]), ([], []), ([5], [5]), ([], []), ([7], [7]), ([6, 8, 4], [6, 8]), ([], []), ([10], [10]), ([], []), ([12], [12]), ([11, 13, 9], [11, 13]), ([], []), ([15], [15]), ([], []), ([17], [17]), ([16, 18, 14], [16, 18]), ([4, 9, 14, 19], [4, 9, 14, 19]), ([20, 19, 0, 1, 2, 3, 4, 5, 6, 7, 8, 9, 10, 11, 12, 13, 14, 15, 16, 17, 18, 19, 20], [20])])
def gatherumref04_Box.B3 : List Nat := [0, 1, 0, 4, 15, 0, 32, 0, 128, 511, 0, 1024, 0, 4096, 16383, 0, 32768, 0, 131072, 524287, 1048575, 2097151]
theorem gatherumref04_Box.tab3 : rtab .any (opsOf Try.f20 3) = gatherumref04_Box.T3 := by kernel_rfl
theorem gatherumref04_Box.bits3 : waitsOk gatherumref04_Box.T3.2 gatherumref04_Box.B3 = Zt := by kernel_rfl
set_option maxHeartbeats 8000000 in
set_option maxRecDepth 100000 in
theorem gatherumref04_Box.calls (k : Nat) (a0_0 : Int) (a0_1 : Int) (a0_2 : Int) (a1_0 : Int) (a1_1 : Int) (a1_2 : Int) (a1_3 : Int) (r1 : Int) (r2 : Int) (r3 : Int) (r4 : Int) (w : World) (h : gatherumref04_Box.f k a0_0 a0_1 a0_2 a1_0 a1_1 a1_2 a1_3 = some (r1, r2, r3, r4)) :
  Calls Try.prog 20 #[.agg #[.int .i64 a0_0, .int .i64 a0_1, .int .i64 a0_2], .agg #[.int .i64 a1_0, .int .i64 a1_1, .int .i64 a1_2, .int .i64 a1_3]] w fun e w' => e = .returned (.agg #[.int .i64 r1, .int .i64 r2, .int .i64 r3, .int .i64 r4]) ∧ Below w.heap.size w w' := by
 have hu32 := Try.underlying32
 have hu37 := Try.underlying37
 have hu23 := Try.underlying23
 have HB := Za (Below.refl w.heap.size w)
 have H : ((gatherumref04_Do.f k a0_0 a0_1 a0_2 a1_0 a1_1).bind fun bt251 => ((gatherumref04_Do.f k a0_0 a0_1 a0_2 a1_2 a1_3).bind fun bt254 => ((gatherumref04_low.f bt251.1 bt254.1).bind fun t257 => ((gatherumref04_low.f bt251.2 bt254.2).bind fun t258 => ((gatherumref04_high.f bt251.1 bt254.1).bind fun t259 => ((gatherumref04_high.f bt251.2 bt254.2).bind fun t260 => (some (t257, t258, t259, t260)))))))) = some (r1, r2, r3, r4) := h
 clear h
 replace H := Option.bind_eq_some_iff.mp H
 obtain ⟨⟨t251, t252⟩, A30, H⟩ := H
 replace H : ((gatherumref04_Do.f k a0_0 a0_1 a0_2 a1_2 a1_3).bind fun bt254 => ((gatherumref04_low.f t251 bt254.1).bind fun t257 => ((gatherumref04_low.f t252 bt254.2).bind fun t258 => ((gatherumref04_high.f t251 bt254.1).bind fun t259 => ((gatherumref04_high.f t252 bt254.2).bind fun t260 => (some (t257, t258, t259, t260))))))) = some (r1, r2, r3, r4) := H
 have A3 := Za A30
 clear A30
 replace H := Option.bind_eq_some_iff.mp H
 obtain ⟨⟨t254, t255⟩, A40, H⟩ := H
 replace H : ((gatherumref04_low.f t251 t254).bind fun t257 => ((gatherumref04_low.f t252 t255).bind fun t258 => ((gatherumref04_high.f t251 t254).bind fun t259 => ((gatherumref04_high.f t252 t255).bind fun t260 => (some (t257, t258, t259, t260)))))) = some (r1, r2, r3, r4) := H
 have A4 := Za A40
 clear A40
 replace H := Option.bind_eq_some_iff.mp H
 obtain ⟨t257, A50, H⟩ := H
 replace H : ((gatherumref04_low.f t252 t255).bind fun t258 => ((gatherumref04_high.f t251 t254).bind fun t259 => ((gatherumref04_high.f t252 t255).bind fun t260 => (some (t257, t258, t259, t260))))) = some (r1, r2, r3, r4) := H
 have A5 := Za A50
 clear A50
 replace H := Option.bind_eq_some_iff.mp H
 obtain ⟨t258, A60, H⟩ := H
 replace H : ((gatherumref04_high.f t251 t254).bind fun t259 => ((gatherumref04_high.f t252 t255).bind fun t260 => (some (t257, t258, t259, t260)))) = some (r1, r2, r3, r4) := H
 have A6 := Za A60
 clear A60
 replace H := Option.bind_eq_some_iff.mp H
 obtain ⟨t259, A70, H⟩ := H
 replace H : ((gatherumref04_high.f t252 t255).bind fun t260 => (some (t257, t258, t259, t260))) = some (r1, r2, r3, r4) := H
 have A7 := Za A70
 clear A70
 replace H := Option.bind_eq_some_iff.mp H
 obtain ⟨t260, A80, H⟩ := H
 replace H : (some (t257, t258, t259, t260)) = some (r1, r2, r3, r4) := H
 have A8 := Za A80
 clear A80
 simp only [Option.some.injEq, Prod.mk.injEq] at H
 obtain ⟨rfl, rfl, rfl, rfl⟩ := H
 go_enter Try.func20, Try.ntmps20
 try go_wp2_with (first | ((with_reducible refine gate_dst (N := 2) rfl ?_); refine box_event ?hg (N := 2) ?hd (cs := #[.int .i64 a0_0, .int .i64 a0_1, .int .i64 a0_2]) (t := 32) ?hr ?_; (case hd => rfl); (case hg => rfl); (case hr => first | (go_simp; done) | (go_simp; rfl)); intro gb248 hg w9 hbox hb; have n0_ := Za (below_step (hb_9 HB.out) hb); have n1_ := Za (hbox); have n2_ := Za ((by rw [hg]; exact (below_size (hb_9 HB.out)) : w.heap.size ≤ gb248)); have n3_ := Za ((by rw [hg]; exact (below_size (hb_9 HB.out)) : w.heap.size ≤ gb248)); clear HB; have HB := n0_; have BK248 := n1_; have GW248 := n2_; have GE248 := n3_; clear n0_ n1_ n2_ n3_; clear hb hbox hg) | ((with_reducible refine gate_dst (N := 3) rfl ?_); refine box_event ?hg (N := 3) ?hd (cs := #[.int .i64 a1_0, .int .i64 a1_1, .int .i64 a1_2, .int .i64 a1_3]) (t := 37) ?hr ?_; (case hd => rfl); (case hg => rfl); (case hr => first | (go_simp; done) | (go_simp; rfl)); intro gb249 hg w10 hbox hb; have n0_ := Za (Xi (g := gb248) (o := .cells #[.int .i64 a0_0, .int .i64 a0_1, .int .i64 a0_2] 32 (0, 0)) (bb_9 BK248.out) hb); have n1_ := Za (below_step (hb_9 HB.out) hb); have n2_ := Za (hbox); have n3_ := Za ((by rw [hg]; exact (below_size (hb_9 HB.out)) : w.heap.size ≤ gb249)); have n4_ := Za ((by rw [hg]; exact (below_size (hb_9 HB.out)) : w.heap.size ≤ gb249)); have n5_ := Za ((by rw [hg]; exact Nat.ne_of_lt (blk_lt (g := gb248) (o := .cells #[.int .i64 a0_0, .int .i64 a0_1, .int .i64 a0_2] 32 (0, 0)) (bb_9 BK248.out)) : gb248 ≠ gb249)); have n6_ := Za ((by rw [hg]; exact Nat.ne_of_gt (blk_lt (g := gb248) (o := .cells #[.int .i64 a0_0, .int .i64 a0_1, .int .i64 a0_2] 32 (0, 0)) (bb_9 BK248.out)) : gb249 ≠ gb248)); clear BK248; clear HB; have BK248 := n0_; have HB := n1_; have BK249 := n2_; have GW249 := n3_; have GE249 := n4_; have NB248_249 := n5_; have NB249_248 := n6_; clear n0_ n1_ n2_ n3_ n4_ n5_ n6_; clear hb hbox hg) | ((with_reducible refine gate_dst (N := 4) rfl ?_); refine box_event ?hg (N := 4) ?hd (cs := #[.int .i64 0, .int .i64 0, .int .i64 0, .int .i64 0]) (t := 37) ?hr ?_; (case hd => rfl); (case hg => rfl); (case hr => first | (go_simp; done) | (go_simp; rfl)); intro gb250 hg w11 hbox hb; have n0_ := Za (Xi (g := gb248) (o := .cells #[.int .i64 a0_0, .int .i64 a0_1, .int .i64 a0_2] 32 (0, 0)) (bb_9 BK248.out) hb); have n1_ := Za (Xi (g := gb249) (o := .cells #[.int .i64 a1_0, .int .i64 a1_1, .int .i64 a1_2, .int .i64 a1_3] 37 (0, 0)) (bb_9 BK249.out) hb); have n2_ := Za (below_step (hb_9 HB.out) hb); have n3_ := Za (hbox); have n4_ := Za ((by rw [hg]; exact (below_size (hb_9 HB.out)) : w.heap.size ≤ gb250)); have n5_ := Za ((by rw [hg]; exact (below_size (hb_9 HB.out)) : w.heap.size ≤ gb250)); have n6_ := Za ((by rw [hg]; exact Nat.ne_of_lt (blk_lt (g := gb248) (o := .cells #[.int .i64 a0_0, .int .i64 a0_1, .int .i64 a0_2] 32 (0, 0)) (bb_9 BK248.out)) : gb248 ≠ gb250)); have n7_ := Za ((by rw [hg]; exact Nat.ne_of_gt (blk_lt (g := gb248) (o := .cells #[.int .i64 a0_0, .int .i64 a0_1, .int .i64 a0_2] 32 (0, 0)) (bb_9 BK248.out)) : gb250 ≠ gb248)); have n8_ := Za ((by rw [hg]; exact Nat.ne_of_lt (blk_lt (g := gb249) (o := .cells #[.int .i64 a1_0, .int .i64 a1_1, .int .i64 a1_2, .int .i64 a1_3] 37 (0, 0)) (bb_9 BK249.out)) : gb249 ≠ gb250)); have n9_ := Za ((by rw [hg]; exact Nat.ne_of_gt (blk_lt (g := gb249) (o := .cells #[.int .i64 a1_0, .int .i64 a1_1, .int .i64 a1_2, .int .i64 a1_3] 37 (0, 0)) (bb_9 BK249.out)) : gb250 ≠ gb249)); clear BK248; clear BK249; clear HB; have BK248 := n0_; have BK249 := n1_; have HB := n2_; have BK250 := n3_; have GW250 := n4_; have GE250 := n5_; have NB248_250 := n6_; have NB250_248 := n7_; have NB249_250 := n8_; have NB250_249 := n9_; clear n0_ n1_ n2_ n3_ n4_ n5_ n6_ n7_ n8_ n9_; clear hb hbox hg; have hnb12 := NB248_249.out; have hnc12 := NB249_248.out; have hnb13 := NB248_250.out; have hnc13 := NB250_248.out; have hcz14_0 : w11.cell? ⟨gb248, 0, none⟩ = some (.int .i64 a0_0) := (Xd BK248.out 0).trans rfl; have hcz14_1 : w11.cell? ⟨gb248, 1, none⟩ = some (.int .i64 a0_1) := (Xd BK248.out 1).trans rfl; have hcz14_2 : w11.cell? ⟨gb248, 2, none⟩ = some (.int .i64 a0_2) := (Xd BK248.out 2).trans rfl; have hfz14_0 := Xh BK248.out 0; have hfz14_1 := Xh BK248.out 1; have hfz14_2 := Xh BK248.out 2; have hnb15 := NB249_250.out; have hnc15 := NB250_249.out; have hcz16_0 : w11.cell? ⟨gb249, 0, none⟩ = some (.int .i64 a1_0) := (Xd BK249.out 0).trans rfl; have hcz16_1 : w11.cell? ⟨gb249, 1, none⟩ = some (.int .i64 a1_1) := (Xd BK249.out 1).trans rfl; have hcz16_2 : w11.cell? ⟨gb249, 2, none⟩ = some (.int .i64 a1_2) := (Xd BK249.out 2).trans rfl; have hcz16_3 : w11.cell? ⟨gb249, 3, none⟩ = some (.int .i64 a1_3) := (Xd BK249.out 3).trans rfl; have hfz16_0 := Xh BK249.out 0; have hfz16_1 := Xh BK249.out 1; have hfz16_2 := Xh BK249.out 2; have hfz16_3 := Xh BK249.out 3) | ((with_reducible refine gate_callee (f := 17) rfl ?_); refine goesL_ (some 13) rfl rfl Try.func17 (by kernel_rfl) rfl #[.agg #[.int .i64 a0_0, .int .i64 a0_1, .int .i64 a0_2], .agg #[.int .i64 a1_0, .int .i64 a1_1]] rfl (by (try simp only [List.map_toArray, List.map_cons, List.map_nil]); first | done | rfl | (simp only [List.length_drop, List.length_take]; rfl)) ?_; (with_reducible refine (gatherumref04_Do.calls k a0_0 a0_1 a0_2 a1_0 a1_1 t251 t252 _ A3.out).mono ?_); rintro e w17 ⟨rfl, hb⟩; refine ⟨_, rfl, ?_⟩; have n0_ := Za (Xi (g := gb248) (o := .cells #[.int .i64 a0_0, .int .i64 a0_1, .int .i64 a0_2] 32 (0, 0)) (bb_9 BK248.out) hb); have n1_ := Za (Xi (g := gb249) (o := .cells #[.int .i64 a1_0, .int .i64 a1_1, .int .i64 a1_2, .int .i64 a1_3] 37 (0, 0)) (bb_9 BK249.out) hb); have n2_ := Za (Xi (g := gb250) (o := .cells #[.int .i64 0, .int .i64 0, .int .i64 0, .int .i64 0] 37 (0, 0)) (bb_9 BK250.out) hb); have n3_ := Za (below_step (hb_9 HB.out) hb); clear BK248; clear BK249; clear BK250; clear HB; have BK248 := n0_; have BK249 := n1_; have BK250 := n2_; have HB := n3_; clear n0_ n1_ n2_ n3_; (try clear hb); (try clear hb2); (try clear hk); (try clear hi)) | ((with_reducible refine gate_dst (N := 5) rfl ?_); refine box_event ?hg (N := 5) ?hd (cs := #[.int .i64 0, .int .i64 0]) (t := 23) ?hr ?_; (case hd => rfl); (case hg => rfl); (case hr => first | (go_simp; done) | (go_simp; rfl)); intro gb253 hg w18 hbox hb; have n0_ := Za (Xi (g := gb248) (o := .cells #[.int .i64 a0_0, .int .i64 a0_1, .int .i64 a0_2] 32 (0, 0)) (bb_9 BK248.out) hb); have n1_ := Za (Xi (g := gb249) (o := .cells #[.int .i64 a1_0, .int .i64 a1_1, .int .i64 a1_2, .int .i64 a1_3] 37 (0, 0)) (bb_9 BK249.out) hb); have n2_ := Za (Xi (g := gb250) (o := .cells #[.int .i64 0, .int .i64 0, .int .i64 0, .int .i64 0] 37 (0, 0)) (bb_9 BK250.out) hb); have n3_ := Za (below_step (hb_9 HB.out) hb); have n4_ := Za (hbox); have n5_ := Za ((by rw [hg]; exact (below_size (hb_9 HB.out)) : w.heap.size ≤ gb253)); have n6_ := Za ((by rw [hg]; exact (below_size (hb_9 HB.out)) : w.heap.size ≤ gb253)); have n7_ := Za ((by rw [hg]; exact Nat.ne_of_lt (blk_lt (g := gb248) (o := .cells #[.int .i64 a0_0, .int .i64 a0_1, .int .i64 a0_2] 32 (0, 0)) (bb_9 BK248.out)) : gb248 ≠ gb253)); have n8_ := Za ((by rw [hg]; exact Nat.ne_of_gt (blk_lt (g := gb248) (o := .cells #[.int .i64 a0_0, .int .i64 a0_1, .int .i64 a0_2] 32 (0, 0)) (bb_9 BK248.out)) : gb253 ≠ gb248)); have n9_ := Za ((by rw [hg]; exact Nat.ne_of_lt (blk_lt (g := gb249) (o := .cells #[.int .i64 a1_0, .int .i64 a1_1, .int .i64 a1_2, .int .i64 a1_3] 37 (0, 0)) (bb_9 BK249.out)) : gb249 ≠ gb253)); have n10_ := Za ((by rw [hg]; exact Nat.ne_of_gt (blk_lt (g := gb249) (o := .cells #[.int .i64 a1_0, .int .i64 a1_1, .int .i64 a1_2, .int .i64 a1_3] 37 (0, 0)) (bb_9 BK249.out)) : gb253 ≠ gb249)); have n11_ := Za ((by rw [hg]; exact Nat.ne_of_lt (blk_lt (g := gb250) (o := .cells #[.int .i64 0, .int .i64 0, .int .i64 0, .int .i64 0] 37 (0, 0)) (bb_9 BK250.out)) : gb250 ≠ gb253)); have n12_ := Za ((by rw [hg]; exact Nat.ne_of_gt (blk_lt (g := gb250) (o := .cells #[.int .i64 0, .int .i64 0, .int .i64 0, .int .i64 0] 37 (0, 0)) (bb_9 BK250.out)) : gb253 ≠ gb250)); clear BK248; clear BK249; clear BK250; clear HB; have BK248 := n0_; have BK249 := n1_; have BK250 := n2_; have HB := n3_; have BK253 := n4_; have GW253 := n5_; have GE253 := n6_; have NB248_253 := n7_; have NB253_248 := n8_; have NB249_253 := n9_; have NB253_249 := n10_; have NB250_253 := n11_; have NB253_250 := n12_; clear n0_ n1_ n2_ n3_ n4_ n5_ n6_ n7_ n8_ n9_ n10_ n11_ n12_; clear hb hbox hg; have hnb19 := NB253_248.out; have hnc19 := NB248_253.out; have hnb20 := NB253_249.out; have hnc20 := NB249_253.out; have hnb21 := NB253_250.out; have hnc21 := NB250_253.out; have hcz22_0 : w18.cell? ⟨gb253, 0, none⟩ = some (.int .i64 0) := (Xd BK253.out 0).trans rfl; have hcz22_1 : w18.cell? ⟨gb253, 1, none⟩ = some (.int .i64 0) := (Xd BK253.out 1).trans rfl; have hfz22_0 := Xh BK253.out 0; have hfz22_1 := Xh BK253.out 1; have hcz23_0 : w18.cell? ⟨gb248, 0, none⟩ = some (.int .i64 a0_0) := (Xd BK248.out 0).trans rfl; have hcz23_1 : w18.cell? ⟨gb248, 1, none⟩ = some (.int .i64 a0_1) := (Xd BK248.out 1).trans rfl; have hcz23_2 : w18.cell? ⟨gb248, 2, none⟩ = some (.int .i64 a0_2) := (Xd BK248.out 2).trans rfl; have hfz23_0 := Xh BK248.out 0; have hfz23_1 := Xh BK248.out 1; have hfz23_2 := Xh BK248.out 2; have hcz24_0 : w18.cell? ⟨gb249, 0, none⟩ = some (.int .i64 a1_0) := (Xd BK249.out 0).trans rfl; have hcz24_1 : w18.cell? ⟨gb249, 1, none⟩ = some (.int .i64 a1_1) := (Xd BK249.out 1).trans rfl; have hcz24_2 : w18.cell? ⟨gb249, 2, none⟩ = some (.int .i64 a1_2) := (Xd BK249.out 2).trans rfl; have hcz24_3 : w18.cell? ⟨gb249, 3, none⟩ = some (.int .i64 a1_3) := (Xd BK249.out 3).trans rfl; have hfz24_0 := Xh BK249.out 0; have hfz24_1 := Xh BK249.out 1; have hfz24_2 := Xh BK249.out 2; have hfz24_3 := Xh BK249.out 3) | ((with_reducible refine gate_callee (f := 17) rfl ?_); refine goesL_ (some 20) rfl rfl Try.func17 (by kernel_rfl) rfl #[.agg #[.int .i64 a0_0, .int .i64 a0_1, .int .i64 a0_2], .agg #[.int .i64 a1_2, .int .i64 a1_3]] rfl (by (try simp only [List.map_toArray, List.map_cons, List.map_nil]); first | done | rfl | (simp only [List.length_drop, List.length_take]; rfl)) ?_; (with_reducible refine (gatherumref04_Do.calls k a0_0 a0_1 a0_2 a1_2 a1_3 t254 t255 _ A4.out).mono ?_); rintro e w25 ⟨rfl, hb⟩; refine ⟨_, rfl, ?_⟩; have n0_ := Za (Xi (g := gb248) (o := .cells #[.int .i64 a0_0, .int .i64 a0_1, .int .i64 a0_2] 32 (0, 0)) (by (with_reducible repeat (first | refine Xe ?_ _ | refine Xg ?_ | refine Xf ?_ _)); refine blk_far ?_ NB248_253.out _; (with_reducible repeat (first | refine Xe ?_ _ | refine Xg ?_ | refine Xf ?_ _)); refine blk_far ?_ NB248_253.out _; (with_reducible repeat (first | refine Xe ?_ _ | refine Xg ?_ | refine Xf ?_ _)); exact BK248.out) hb); have n1_ := Za (Xi (g := gb249) (o := .cells #[.int .i64 a1_0, .int .i64 a1_1, .int .i64 a1_2, .int .i64 a1_3] 37 (0, 0)) (by (with_reducible repeat (first | refine Xe ?_ _ | refine Xg ?_ | refine Xf ?_ _)); refine blk_far ?_ NB249_253.out _; (with_reducible repeat (first | refine Xe ?_ _ | refine Xg ?_ | refine Xf ?_ _)); refine blk_far ?_ NB249_253.out _; (with_reducible repeat (first | refine Xe ?_ _ | refine Xg ?_ | refine Xf ?_ _)); exact BK249.out) hb); have n2_ := Za (Xi (g := gb250) (o := .cells #[.int .i64 0, .int .i64 0, .int .i64 0, .int .i64 0] 37 (0, 0)) (by (with_reducible repeat (first | refine Xe ?_ _ | refine Xg ?_ | refine Xf ?_ _)); refine blk_far ?_ NB250_253.out _; (with_reducible repeat (first | refine Xe ?_ _ | refine Xg ?_ | refine Xf ?_ _)); refine blk_far ?_ NB250_253.out _; (with_reducible repeat (first | refine Xe ?_ _ | refine Xg ?_ | refine Xf ?_ _)); exact BK250.out) hb); have n3_ := Za (Xi (g := gb253) (o := .cells #[.int .i64 t251, .int .i64 t252] 23 (0, 0)) (by (with_reducible repeat (first | refine Xe ?_ _ | refine Xg ?_ | refine Xf ?_ _)); refine blk_put (cs := #[.int .i64 t251, .int .i64 0]) ?_ 1 _ rfl; (with_reducible repeat (first | refine Xe ?_ _ | refine Xg ?_ | refine Xf ?_ _)); refine blk_put (cs := #[.int .i64 0, .int .i64 0]) ?_ 0 _ rfl; (with_reducible repeat (first | refine Xe ?_ _ | refine Xg ?_ | refine Xf ?_ _)); exact BK253.out) hb); have n4_ := Za (below_step (hb_9 HB.out) hb); clear BK248; clear BK249; clear BK250; clear BK253; clear HB; have BK248 := n0_; have BK249 := n1_; have BK250 := n2_; have BK253 := n3_; have HB := n4_; clear n0_ n1_ n2_ n3_ n4_; (try clear hb); (try clear hb2); (try clear hk); (try clear hi)) | ((with_reducible refine gate_dst (N := 6) rfl ?_); refine box_event ?hg (N := 6) ?hd (cs := #[.int .i64 0, .int .i64 0]) (t := 23) ?hr ?_; (case hd => rfl); (case hg => rfl); (case hr => first | (go_simp; done) | (go_simp; rfl)); intro gb256 hg w26 hbox hb; have n0_ := Za (Xi (g := gb248) (o := .cells #[.int .i64 a0_0, .int .i64 a0_1, .int .i64 a0_2] 32 (0, 0)) (bb_9 BK248.out) hb); have n1_ := Za (Xi (g := gb249) (o := .cells #[.int .i64 a1_0, .int .i64 a1_1, .int .i64 a1_2, .int .i64 a1_3] 37 (0, 0)) (bb_9 BK249.out) hb); have n2_ := Za (Xi (g := gb250) (o := .cells #[.int .i64 0, .int .i64 0, .int .i64 0, .int .i64 0] 37 (0, 0)) (bb_9 BK250.out) hb); have n3_ := Za (Xi (g := gb253) (o := .cells #[.int .i64 t251, .int .i64 t252] 23 (0, 0)) (bb_9 BK253.out) hb); have n4_ := Za (below_step (hb_9 HB.out) hb); have n5_ := Za (hbox); have n6_ := Za ((by rw [hg]; exact (below_size (hb_9 HB.out)) : w.heap.size ≤ gb256)); have n7_ := Za ((by rw [hg]; exact (below_size (hb_9 HB.out)) : w.heap.size ≤ gb256)); have n8_ := Za ((by rw [hg]; exact Nat.ne_of_lt (blk_lt (g := gb248) (o := .cells #[.int .i64 a0_0, .int .i64 a0_1, .int .i64 a0_2] 32 (0, 0)) (bb_9 BK248.out)) : gb248 ≠ gb256)); have n9_ := Za ((by rw [hg]; exact Nat.ne_of_gt (blk_lt (g := gb248) (o := .cells #[.int .i64 a0_0, .int .i64 a0_1, .int .i64 a0_2] 32 (0, 0)) (bb_9 BK248.out)) : gb256 ≠ gb248)); have n10_ := Za ((by rw [hg]; exact Nat.ne_of_lt (blk_lt (g := gb249) (o := .cells #[.int .i64 a1_0, .int .i64 a1_1, .int .i64 a1_2, .int .i64 a1_3] 37 (0, 0)) (bb_9 BK249.out)) : gb249 ≠ gb256)); have n11_ := Za ((by rw [hg]; exact Nat.ne_of_gt (blk_lt (g := gb249) (o := .cells #[.int .i64 a1_0, .int .i64 a1_1, .int .i64 a1_2, .int .i64 a1_3] 37 (0, 0)) (bb_9 BK249.out)) : gb256 ≠ gb249)); have n12_ := Za ((by rw [hg]; exact Nat.ne_of_lt (blk_lt (g := gb250) (o := .cells #[.int .i64 0, .int .i64 0, .int .i64 0, .int .i64 0] 37 (0, 0)) (bb_9 BK250.out)) : gb250 ≠ gb256)); have n13_ := Za ((by rw [hg]; exact Nat.ne_of_gt (blk_lt (g := gb250) (o := .cells #[.int .i64 0, .int .i64 0, .int .i64 0, .int .i64 0] 37 (0, 0)) (bb_9 BK250.out)) : gb256 ≠ gb250)); have n14_ := Za ((by rw [hg]; exact Nat.ne_of_lt (blk_lt (g := gb253) (o := .cells #[.int .i64 t251, .int .i64 t252] 23 (0, 0)) (bb_9 BK253.out)) : gb253 ≠ gb256)); have n15_ := Za ((by rw [hg]; exact Nat.ne_of_gt (blk_lt (g := gb253) (o := .cells #[.int .i64 t251, .int .i64 t252] 23 (0, 0)) (bb_9 BK253.out)) : gb256 ≠ gb253)); clear BK248; clear BK249; clear BK250; clear BK253; clear HB; have BK248 := n0_; have BK249 := n1_; have BK250 := n2_; have BK253 := n3_; have HB := n4_; have BK256 := n5_; have GW256 := n6_; have GE256 := n7_; have NB248_256 := n8_; have NB256_248 := n9_; have NB249_256 := n10_; have NB256_249 := n11_; have NB250_256 := n12_; have NB256_250 := n13_; have NB253_256 := n14_; have NB256_253 := n15_; clear n0_ n1_ n2_ n3_ n4_ n5_ n6_ n7_ n8_ n9_ n10_ n11_ n12_ n13_ n14_ n15_; clear hb hbox hg; have hnb27 := NB256_248.out; have hnc27 := NB248_256.out; have hnb28 := NB256_249.out; have hnc28 := NB249_256.out; have hnb29 := NB256_250.out; have hnc29 := NB250_256.out; have hnb30 := NB256_253.out; have hnc30 := NB253_256.out; have hcz31_0 : w26.cell? ⟨gb256, 0, none⟩ = some (.int .i64 0) := (Xd BK256.out 0).trans rfl; have hcz31_1 : w26.cell? ⟨gb256, 1, none⟩ = some (.int .i64 0) := (Xd BK256.out 1).trans rfl; have hfz31_0 := Xh BK256.out 0; have hfz31_1 := Xh BK256.out 1))
 have n0_ : Aside0 (((w26.setCell ⟨gb256, 0, none⟩ (.int .i64 t254)).setCell ⟨gb256, 1, none⟩ (.int .i64 t255)).heap[gb248]? = some (.cells #[.int .i64 a0_0, .int .i64 a0_1, .int .i64 a0_2] 32 (0, 0))) := ⟨by (with_reducible repeat (first | refine Xe ?_ _ | refine Xg ?_ | refine Xf ?_ _)); refine blk_far ?_ NB248_256.out _; (with_reducible repeat (first | refine Xe ?_ _ | refine Xg ?_ | refine Xf ?_ _)); refine blk_far ?_ NB248_256.out _; (with_reducible repeat (first | refine Xe ?_ _ | refine Xg ?_ | refine Xf ?_ _)); exact BK248.out⟩
 have n1_ : Aside0 (((w26.setCell ⟨gb256, 0, none⟩ (.int .i64 t254)).setCell ⟨gb256, 1, none⟩ (.int .i64 t255)).heap[gb249]? = some (.cells #[.int .i64 a1_0, .int .i64 a1_1, .int .i64 a1_2, .int .i64 a1_3] 37 (0, 0))) := ⟨by (with_reducible repeat (first | refine Xe ?_ _ | refine Xg ?_ | refine Xf ?_ _)); refine blk_far ?_ NB249_256.out _; (with_reducible repeat (first | refine Xe ?_ _ | refine Xg ?_ | refine Xf ?_ _)); refine blk_far ?_ NB249_256.out _; (with_reducible repeat (first | refine Xe ?_ _ | refine Xg ?_ | refine Xf ?_ _)); exact BK249.out⟩
 have n2_ : Aside0 (((w26.setCell ⟨gb256, 0, none⟩ (.int .i64 t254)).setCell ⟨gb256, 1, none⟩ (.int .i64 t255)).heap[gb250]? = some (.cells #[.int .i64 0, .int .i64 0, .int .i64 0, .int .i64 0] 37 (0, 0))) := ⟨by (with_reducible repeat (first | refine Xe ?_ _ | refine Xg ?_ | refine Xf ?_ _)); refine blk_far ?_ NB250_256.out _; (with_reducible repeat (first | refine Xe ?_ _ | refine Xg ?_ | refine Xf ?_ _)); refine blk_far ?_ NB250_256.out _; (with_reducible repeat (first | refine Xe ?_ _ | refine Xg ?_ | refine Xf ?_ _)); exact BK250.out⟩
 have n3_ : Aside0 (((w26.setCell ⟨gb256, 0, none⟩ (.int .i64 t254)).setCell ⟨gb256, 1, none⟩ (.int .i64 t255)).heap[gb253]? = some (.cells #[.int .i64 t251, .int .i64 t252] 23 (0, 0))) := ⟨by (with_reducible repeat (first | refine Xe ?_ _ | refine Xg ?_ | refine Xf ?_ _)); refine blk_far ?_ NB253_256.out _; (with_reducible repeat (first | refine Xe ?_ _ | refine Xg ?_ | refine Xf ?_ _)); refine blk_far ?_ NB253_256.out _; (with_reducible repeat (first | refine Xe ?_ _ | refine Xg ?_ | refine Xf ?_ _)); exact BK253.out⟩
 have n4_ : Aside0 (((w26.setCell ⟨gb256, 0, none⟩ (.int .i64 t254)).setCell ⟨gb256, 1, none⟩ (.int .i64 t255)).heap[gb256]? = some (.cells #[.int .i64 t254, .int .i64 t255] 23 (0, 0))) := ⟨by (with_reducible repeat (first | refine Xe ?_ _ | refine Xg ?_ | refine Xf ?_ _)); refine blk_put (cs := #[.int .i64 t254, .int .i64 0]) ?_ 1 _ rfl; (with_reducible repeat (first | refine Xe ?_ _ | refine Xg ?_ | refine Xf ?_ _)); refine blk_put (cs := #[.int .i64 0, .int .i64 0]) ?_ 0 _ rfl; (with_reducible repeat (first | refine Xe ?_ _ | refine Xg ?_ | refine Xf ?_ _)); exact BK256.out⟩
 have n5_ : Aside0 (Below w.heap.size w ((w26.setCell ⟨gb256, 0, none⟩ (.int .i64 t254)).setCell ⟨gb256, 1, none⟩ (.int .i64 t255))) := ⟨by repeat (first | (with_reducible first | exact HB.out | apply below_alloc | apply pw_below_drewN | apply below_drew1 | refine below_set ?_ GE248.out | refine below_set ?_ GE249.out | refine below_set ?_ GE250.out | refine below_set ?_ GE253.out | refine below_set ?_ GE256.out) | exact HB.out)⟩
 (try clear BK248)
 (try clear BK249)
 (try clear BK250)
 (try clear BK253)
 (try clear BK256)
 (try clear HB)
 generalize ((w26.setCell ⟨gb256, 0, none⟩ (.int .i64 t254)).setCell ⟨gb256, 1, none⟩ (.int .i64 t255)) = w32 at n0_ n1_ n2_ n3_ n4_ n5_ ⊢
 have BK248 := n0_
 have BK249 := n1_
 have BK250 := n2_
 have BK253 := n3_
 have BK256 := n4_
 have HB := n5_
 clear n0_ n1_ n2_ n3_ n4_ n5_
 have n0_ := Za (Xg BK248.out)
 have n1_ := Za (Xg BK249.out)
 have n2_ := Za (Xg BK250.out)
 have n3_ := Za (Xg BK253.out)
 have n4_ := Za (Xg BK256.out)
 have n5_ := Za (below_drew1 HB.out)
 clear BK248
 clear BK249
 clear BK250
 clear BK253
 clear BK256
 clear HB
 have BK248 := n0_
 have BK249 := n1_
 have BK250 := n2_
 have BK253 := n3_
 have BK256 := n4_
 have HB := n5_
 clear n0_ n1_ n2_ n3_ n4_ n5_
 refine start_ (n := 22) (S := fun w' => w'.cell? ⟨gb253, 0, none⟩ = some (.int .i64 t251) ∧ w'.cell? ⟨gb253, 1, none⟩ = some (.int .i64 t252) ∧ w'.cell? ⟨gb256, 0, none⟩ = some (.int .i64 t254) ∧ w'.cell? ⟨gb256, 1, none⟩ = some (.int .i64 t255)) (ds := []) #[Zf,Zf,Zf,Zf,Zf,Zf,Zf,Zf,Zf,Zf,Zf,Zf,Zf,Zf,Zf,Zf,Zf,Zf,Zf,Zf,Zf,Zf] (by kernel_rfl) rfl rfl ⟨(Xd BK253.out 0).trans rfl, (Xd BK253.out 1).trans rfl, (Xd BK256.out 0).trans rfl, (Xd BK256.out 1).trans rfl⟩ (fun hHeld => ?_); refine with_tabW gatherumref04_Box.tab3 gatherumref04_Box.bits3 (fun HT_ HW_ => ?_)
 generalize w32.drew = w33 at BK248 BK249 BK250 BK253 BK256 HB hHeld ⊢
 refine pure_ (i := 0) (N := some 21) (v := ?_) (a' := ?_) #[Zt,Zf,Zf,Zf,Zf,Zf,Zf,Zf,Zf,Zf,Zf,Zf,Zf,Zf,Zf,Zf,Zf,Zf,Zf,Zf,Zf,Zf] rfl rfl (any_of HT_.out (by kernel_rfl)) (fun _ _ _ h => h) (Or.inl ⟨by rfl, ?_⟩) ?_ ?_
 rotate_left
 ·intro w'
  go_simp
  with_reducible rfl
 rotate_left
 ·simp only [Act.put, Xa, Xb, Xc, i64_w, i32_w]
  rfl
 refine pure_ (i := 2) (N := some 23) (v := ?_) (a' := ?_) #[Zt,Zf,Zt,Zf,Zf,Zf,Zf,Zf,Zf,Zf,Zf,Zf,Zf,Zf,Zf,Zf,Zf,Zf,Zf,Zf,Zf,Zf] rfl rfl (any_of HT_.out (by kernel_rfl)) (fun _ _ _ h => h) (Or.inl ⟨by rfl, ?_⟩) ?_ ?_
 rotate_left
 ·intro w'
  go_simp
  with_reducible rfl
 rotate_left
 ·simp only [Act.put, Xa, Xb, Xc, i64_w, i32_w]
  rfl
 refine pure_ (i := 5) (N := some 26) (v := ?_) (a' := ?_) #[Zt,Zf,Zt,Zf,Zf,Zt,Zf,Zf,Zf,Zf,Zf,Zf,Zf,Zf,Zf,Zf,Zf,Zf,Zf,Zf,Zf,Zf] rfl rfl (any_of HT_.out (by kernel_rfl)) (fun _ _ _ h => h) (Or.inl ⟨by rfl, ?_⟩) ?_ ?_
 rotate_left
 ·intro w'
  go_simp
  with_reducible rfl
 rotate_left
 ·simp only [Act.put, Xa, Xb, Xc, i64_w, i32_w]
  rfl
 refine pure_ (i := 7) (N := some 28) (v := ?_) (a' := ?_) #[Zt,Zf,Zt,Zf,Zf,Zt,Zf,Zt,Zf,Zf,Zf,Zf,Zf,Zf,Zf,Zf,Zf,Zf,Zf,Zf,Zf,Zf] rfl rfl (any_of HT_.out (by kernel_rfl)) (fun _ _ _ h => h) (Or.inl ⟨by rfl, ?_⟩) ?_ ?_
 rotate_left
 ·intro w'
  go_simp
  with_reducible rfl
 rotate_left
 ·simp only [Act.put, Xa, Xb, Xc, i64_w, i32_w]
  rfl
 refine pure_ (i := 10) (N := some 31) (v := ?_) (a' := ?_) #[Zt,Zf,Zt,Zf,Zf,Zt,Zf,Zt,Zf,Zf,Zt,Zf,Zf,Zf,Zf,Zf,Zf,Zf,Zf,Zf,Zf,Zf] rfl rfl (any_of HT_.out (by kernel_rfl)) (fun _ _ _ h => h) (Or.inl ⟨by rfl, ?_⟩) ?_ ?_
 rotate_left
 ·intro w'
  go_simp
  with_reducible rfl
 rotate_left
 ·simp only [Act.put, Xa, Xb, Xc, i64_w, i32_w]
  rfl
 refine pure_ (i := 12) (N := some 33) (v := ?_) (a' := ?_) #[Zt,Zf,Zt,Zf,Zf,Zt,Zf,Zt,Zf,Zf,Zt,Zf,Zt,Zf,Zf,Zf,Zf,Zf,Zf,Zf,Zf,Zf] rfl rfl (any_of HT_.out (by kernel_rfl)) (fun _ _ _ h => h) (Or.inl ⟨by rfl, ?_⟩) ?_ ?_
 rotate_left
 ·intro w'
  go_simp
  with_reducible rfl
 rotate_left
 ·simp only [Act.put, Xa, Xb, Xc, i64_w, i32_w]
  rfl
 refine pure_ (i := 15) (N := some 36) (v := ?_) (a' := ?_) #[Zt,Zf,Zt,Zf,Zf,Zt,Zf,Zt,Zf,Zf,Zt,Zf,Zt,Zf,Zf,Zt,Zf,Zf,Zf,Zf,Zf,Zf] rfl rfl (any_of HT_.out (by kernel_rfl)) (fun _ _ _ h => h) (Or.inl ⟨by rfl, ?_⟩) ?_ ?_
 rotate_left
 ·intro w'
  go_simp
  with_reducible rfl
 rotate_left
 ·simp only [Act.put, Xa, Xb, Xc, i64_w, i32_w]
  rfl
 refine pure_ (i := 17) (N := some 38) (v := ?_) (a' := ?_) #[Zt,Zf,Zt,Zf,Zf,Zt,Zf,Zt,Zf,Zf,Zt,Zf,Zt,Zf,Zf,Zt,Zf,Zt,Zf,Zf,Zf,Zf] rfl rfl (any_of HT_.out (by kernel_rfl)) (fun _ _ _ h => h) (Or.inl ⟨by rfl, ?_⟩) ?_ ?_
 rotate_left
 ·intro w'
  go_simp
  with_reducible rfl
 rotate_left
 ·simp only [Act.put, Xa, Xb, Xc, i64_w, i32_w]
  rfl
 refine take_ (i := 1) (N := some 22) (v := ?_) (a' := ?_) #[Zt,Zt,Zt,Zf,Zf,Zt,Zf,Zt,Zf,Zf,Zt,Zf,Zt,Zf,Zf,Zt,Zf,Zt,Zf,Zf,Zf,Zf] rfl rfl (take_ofW HT_.out HW_.out (by kernel_rfl)) (fun _ _ _ h => h) (Or.inl ⟨by rfl, ?_⟩) hHeld ?_ ?_
 rotate_left
 ·rintro w' ⟨s0, s1, s2, s3⟩
  go_simp
  with_reducible rfl
 rotate_left
 ·simp only [Act.put, Xa, Xb, Xc, i64_w, i32_w]
  rfl
 refine take_ (i := 3) (N := some 24) (v := ?_) (a' := ?_) #[Zt,Zt,Zt,Zt,Zf,Zt,Zf,Zt,Zf,Zf,Zt,Zf,Zt,Zf,Zf,Zt,Zf,Zt,Zf,Zf,Zf,Zf] rfl rfl (take_ofW HT_.out HW_.out (by kernel_rfl)) (fun _ _ _ h => h) (Or.inl ⟨by rfl, ?_⟩) hHeld ?_ ?_
 rotate_left
 ·rintro w' ⟨s0, s1, s2, s3⟩
  go_simp
  with_reducible rfl
 rotate_left
 ·simp only [Act.put, Xa, Xb, Xc, i64_w, i32_w]
  rfl
 refine take_ (i := 6) (N := some 27) (v := ?_) (a' := ?_) #[Zt,Zt,Zt,Zt,Zf,Zt,Zt,Zt,Zf,Zf,Zt,Zf,Zt,Zf,Zf,Zt,Zf,Zt,Zf,Zf,Zf,Zf] rfl rfl (take_ofW HT_.out HW_.out (by kernel_rfl)) (fun _ _ _ h => h) (Or.inl ⟨by rfl, ?_⟩) hHeld ?_ ?_
 rotate_left
 ·rintro w' ⟨s0, s1, s2, s3⟩
  go_simp
  with_reducible rfl
 rotate_left
 ·simp only [Act.put, Xa, Xb, Xc, i64_w, i32_w]
  rfl
 refine take_ (i := 8) (N := some 29) (v := ?_) (a' := ?_) #[Zt,Zt,Zt,Zt,Zf,Zt,Zt,Zt,Zt,Zf,Zt,Zf,Zt,Zf,Zf,Zt,Zf,Zt,Zf,Zf,Zf,Zf] rfl rfl (take_ofW HT_.out HW_.out (by kernel_rfl)) (fun _ _ _ h => h) (Or.inl ⟨by rfl, ?_⟩) hHeld ?_ ?_
 rotate_left
 ·rintro w' ⟨s0, s1, s2, s3⟩
  go_simp
  with_reducible rfl
 rotate_left
 ·simp only [Act.put, Xa, Xb, Xc, i64_w, i32_w]
  rfl
 refine take_ (i := 11) (N := some 32) (v := ?_) (a' := ?_) #[Zt,Zt,Zt,Zt,Zf,Zt,Zt,Zt,Zt,Zf,Zt,Zt,Zt,Zf,Zf,Zt,Zf,Zt,Zf,Zf,Zf,Zf] rfl rfl (take_ofW HT_.out HW_.out (by kernel_rfl)) (fun _ _ _ h => h) (Or.inl ⟨by rfl, ?_⟩) hHeld ?_ ?_
 rotate_left
 ·rintro w' ⟨s0, s1, s2, s3⟩
  go_simp
  with_reducible rfl
 rotate_left
 ·simp only [Act.put, Xa, Xb, Xc, i64_w, i32_w]
  rfl
 refine take_ (i := 13) (N := some 34) (v := ?_) (a' := ?_) #[Zt,Zt,Zt,Zt,Zf,Zt,Zt,Zt,Zt,Zf,Zt,Zt,Zt,Zt,Zf,Zt,Zf,Zt,Zf,Zf,Zf,Zf] rfl rfl (take_ofW HT_.out HW_.out (by kernel_rfl)) (fun _ _ _ h => h) (Or.inl ⟨by rfl, ?_⟩) hHeld ?_ ?_
 rotate_left
 ·rintro w' ⟨s0, s1, s2, s3⟩
  go_simp
  with_reducible rfl
 rotate_left
 ·simp only [Act.put, Xa, Xb, Xc, i64_w, i32_w]
  rfl
 refine take_ (i := 16) (N := some 37) (v := ?_) (a' := ?_) #[Zt,Zt,Zt,Zt,Zf,Zt,Zt,Zt,Zt,Zf,Zt,Zt,Zt,Zt,Zf,Zt,Zt,Zt,Zf,Zf,Zf,Zf] rfl rfl (take_ofW HT_.out HW_.out (by kernel_rfl)) (fun _ _ _ h => h) (Or.inl ⟨by rfl, ?_⟩) hHeld ?_ ?_
 rotate_left
 ·rintro w' ⟨s0, s1, s2, s3⟩
  go_simp
  with_reducible rfl
 rotate_left
 ·simp only [Act.put, Xa, Xb, Xc, i64_w, i32_w]
  rfl
 refine take_ (i := 18) (N := some 39) (v := ?_) (a' := ?_) #[Zt,Zt,Zt,Zt,Zf,Zt,Zt,Zt,Zt,Zf,Zt,Zt,Zt,Zt,Zf,Zt,Zt,Zt,Zt,Zf,Zf,Zf] rfl rfl (take_ofW HT_.out HW_.out (by kernel_rfl)) (fun _ _ _ h => h) (Or.inl ⟨by rfl, ?_⟩) hHeld ?_ ?_
 rotate_left
 ·rintro w' ⟨s0, s1, s2, s3⟩
  go_simp
  with_reducible rfl
 rotate_left
 ·simp only [Act.put, Xa, Xb, Xc, i64_w, i32_w]
  rfl
 refine one_ (i := 4) (N := some 25) #[Zt,Zt,Zt,Zt,Zt,Zt,Zt,Zt,Zt,Zf,Zt,Zt,Zt,Zt,Zf,Zt,Zt,Zt,Zt,Zf,Zf,Zf] rfl rfl (one_of HT_.out (by kernel_rfl)) (by decide) (fun K hK => ?_)
 refine goes_ Try.func72 (by kernel_rfl) rfl #[.int .i64 t251, .int .i64 t254] (by rfl) rfl rfl (by (try simp only [List.map_toArray, List.map_cons, List.map_nil]); first | done | rfl | (simp only [List.length_drop, List.length_take]; rfl)) ?_
 with_reducible refine (gatherumref04_low.calls t251 t254 t257 _ A5.out).mono ?_
 rintro e w' ⟨rfl, ⟨nd, rfl⟩⟩
 refine ⟨_, rfl, ?_⟩
 refine hK.out _ _ ⟨(Xd BK253.out 0).trans rfl, (Xd BK253.out 1).trans rfl, (Xd BK256.out 0).trans rfl, (Xd BK256.out 1).trans rfl⟩ (fun hHeld => ?_)
 clear hK K
 refine norm_ (a' := ?_) ?_ ?_
 rotate_left
 ·show Act.put _ (some 25) _ = _
  simp only [Act.put, Xa, Xb, Xc, i64_w, i32_w]
  rfl
 refine one_ (i := 9) (N := some 30) #[Zt,Zt,Zt,Zt,Zt,Zt,Zt,Zt,Zt,Zt,Zt,Zt,Zt,Zt,Zf,Zt,Zt,Zt,Zt,Zf,Zf,Zf] rfl rfl (one_of HT_.out (by kernel_rfl)) (by decide) (fun K hK => ?_)
 refine goes_ Try.func72 (by kernel_rfl) rfl #[.int .i64 t252, .int .i64 t255] (by rfl) rfl rfl (by (try simp only [List.map_toArray, List.map_cons, List.map_nil]); first | done | rfl | (simp only [List.length_drop, List.length_take]; rfl)) ?_
 with_reducible refine (gatherumref04_low.calls t252 t255 t258 _ A6.out).mono ?_
 rintro e w' ⟨rfl, ⟨nd, rfl⟩⟩
 refine ⟨_, rfl, ?_⟩
 refine hK.out _ _ ⟨(Xd BK253.out 0).trans rfl, (Xd BK253.out 1).trans rfl, (Xd BK256.out 0).trans rfl, (Xd BK256.out 1).trans rfl⟩ (fun hHeld => ?_)
 clear hK K
 refine norm_ (a' := ?_) ?_ ?_
 rotate_left
 ·show Act.put _ (some 30) _ = _
  simp only [Act.put, Xa, Xb, Xc, i64_w, i32_w]
  rfl
 refine one_ (i := 14) (N := some 35) #[Zt,Zt,Zt,Zt,Zt,Zt,Zt,Zt,Zt,Zt,Zt,Zt,Zt,Zt,Zt,Zt,Zt,Zt,Zt,Zf,Zf,Zf] rfl rfl (one_of HT_.out (by kernel_rfl)) (by decide) (fun K hK => ?_)
 refine goes_ Try.func73 (by kernel_rfl) rfl #[.int .i64 t251, .int .i64 t254] (by rfl) rfl rfl (by (try simp only [List.map_toArray, List.map_cons, List.map_nil]); first | done | rfl | (simp only [List.length_drop, List.length_take]; rfl)) ?_
 with_reducible refine (gatherumref04_high.calls t251 t254 t259 _ A7.out).mono ?_
 rintro e w' ⟨rfl, ⟨nd, rfl⟩⟩
 refine ⟨_, rfl, ?_⟩
 refine hK.out _ _ ⟨(Xd BK253.out 0).trans rfl, (Xd BK253.out 1).trans rfl, (Xd BK256.out 0).trans rfl, (Xd BK256.out 1).trans rfl⟩ (fun hHeld => ?_)
 clear hK K
 refine norm_ (a' := ?_) ?_ ?_
 rotate_left
 ·show Act.put _ (some 35) _ = _
  simp only [Act.put, Xa, Xb, Xc, i64_w, i32_w]
  rfl
 refine one_ (i := 19) (N := some 40) #[Zt,Zt,Zt,Zt,Zt,Zt,Zt,Zt,Zt,Zt,Zt,Zt,Zt,Zt,Zt,Zt,Zt,Zt,Zt,Zt,Zf,Zf] rfl rfl (one_of HT_.out (by kernel_rfl)) (by decide) (fun K hK => ?_)
 refine goes_ Try.func73 (by kernel_rfl) rfl #[.int .i64 t252, .int .i64 t255] (by rfl) rfl rfl (by (try simp only [List.map_toArray, List.map_cons, List.map_nil]); first | done | rfl | (simp only [List.length_drop, List.length_take]; rfl)) ?_
 with_reducible refine (gatherumref04_high.calls t252 t255 t260 _ A8.out).mono ?_
 rintro e w' ⟨rfl, ⟨nd, rfl⟩⟩
 refine ⟨_, rfl, ?_⟩
 refine hK.out _ _ ⟨(Xd BK253.out 0).trans rfl, (Xd BK253.out 1).trans rfl, (Xd BK256.out 0).trans rfl, (Xd BK256.out 1).trans rfl⟩ (fun hHeld => ?_)
 clear hK K
 refine norm_ (a' := ?_) ?_ ?_
 rotate_left
 ·show Act.put _ (some 40) _ = _
  simp only [Act.put, Xa, Xb, Xc, i64_w, i32_w]
  rfl
 refine pure_ (i := 20) (N := some 41) (v := ?_) (a' := ?_) #[Zt,Zt,Zt,Zt,Zt,Zt,Zt,Zt,Zt,Zt,Zt,Zt,Zt,Zt,Zt,Zt,Zt,Zt,Zt,Zt,Zt,Zf] rfl rfl (any_of HT_.out (by kernel_rfl)) (fun _ _ _ h => h) (Or.inl ⟨by rfl, ?_⟩) ?_ ?_
 rotate_left
 ·intro w'
  go_simp
  with_reducible rfl
 rotate_left
 ·simp only [Act.put, Xa, Xb, Xc, i64_w, i32_w]
  rfl
 refine one_ (i := 21) (N := none) #[Zt,Zt,Zt,Zt,Zt,Zt,Zt,Zt,Zt,Zt,Zt,Zt,Zt,Zt,Zt,Zt,Zt,Zt,Zt,Zt,Zt,Zt] rfl rfl (one_of HT_.out (by kernel_rfl)) (by decide) (fun K hK => ?_)
 have hs34 : w33.cell? ⟨gb250, 0, none⟩ = some (.int .i64 0) := (Xd BK250.out 0).trans rfl
 have hfs34 := Xh BK250.out 0
 have hns34_0 := NB248_250.out
 have hns34_1 := NB249_250.out
 have hns34_3 := NB253_250.out
 have hns34_4 := NB256_250.out
 have hms34_0 := NB250_248.out
 have hms34_1 := NB250_249.out
 have hms34_3 := NB250_253.out
 have hms34_4 := NB250_256.out
 have hs35 : w33.cell? ⟨gb250, 1, none⟩ = some (.int .i64 0) := (Xd BK250.out 1).trans rfl
 have hfs35 := Xh BK250.out 1
 have hns35_0 := NB248_250.out
 have hns35_1 := NB249_250.out
 have hns35_3 := NB253_250.out
 have hns35_4 := NB256_250.out
 have hms35_0 := NB250_248.out
 have hms35_1 := NB250_249.out
 have hms35_3 := NB250_253.out
 have hms35_4 := NB250_256.out
 have hs36 : w33.cell? ⟨gb250, 2, none⟩ = some (.int .i64 0) := (Xd BK250.out 2).trans rfl
 have hfs36 := Xh BK250.out 2
 have hns36_0 := NB248_250.out
 have hns36_1 := NB249_250.out
 have hns36_3 := NB253_250.out
 have hns36_4 := NB256_250.out
 have hms36_0 := NB250_248.out
 have hms36_1 := NB250_249.out
 have hms36_3 := NB250_253.out
 have hms36_4 := NB250_256.out
 have hs37 : w33.cell? ⟨gb250, 3, none⟩ = some (.int .i64 0) := (Xd BK250.out 3).trans rfl
 have hfs37 := Xh BK250.out 3
 have hns37_0 := NB248_250.out
 have hns37_1 := NB249_250.out
 have hns37_3 := NB253_250.out
 have hns37_4 := NB256_250.out
 have hms37_0 := NB250_248.out
 have hms37_1 := NB250_249.out
 have hms37_3 := NB250_253.out
 have hms37_4 := NB250_256.out
 refine skip_ (w1 := ?_) (by rfl) rfl ?_ ?_
 rotate_left
 ·go_simp
  rfl
 refine hK.out _ _ ⟨((cell_far (p := ⟨gb250, _, none⟩) NB253_250.out _).trans (((cell_far (p := ⟨gb250, _, none⟩) NB253_250.out _).trans (((cell_far (p := ⟨gb250, _, none⟩) NB253_250.out _).trans (((cell_far (p := ⟨gb250, _, none⟩) NB253_250.out _).trans (hHeld.1)))))))), ((cell_far (p := ⟨gb250, _, none⟩) NB253_250.out _).trans (((cell_far (p := ⟨gb250, _, none⟩) NB253_250.out _).trans (((cell_far (p := ⟨gb250, _, none⟩) NB253_250.out _).trans (((cell_far (p := ⟨gb250, _, none⟩) NB253_250.out _).trans (hHeld.2.1)))))))), ((cell_far (p := ⟨gb250, _, none⟩) NB256_250.out _).trans (((cell_far (p := ⟨gb250, _, none⟩) NB256_250.out _).trans (((cell_far (p := ⟨gb250, _, none⟩) NB256_250.out _).trans (((cell_far (p := ⟨gb250, _, none⟩) NB256_250.out _).trans (hHeld.2.2.1)))))))), ((cell_far (p := ⟨gb250, _, none⟩) NB256_250.out _).trans (((cell_far (p := ⟨gb250, _, none⟩) NB256_250.out _).trans (((cell_far (p := ⟨gb250, _, none⟩) NB256_250.out _).trans (((cell_far (p := ⟨gb250, _, none⟩) NB256_250.out _).trans (hHeld.2.2.2))))))))⟩ (fun hHeld => ?_)
 clear hK K
 refine done_ (done_of HT_.out (by kernel_rfl)) ?_
 try go_wp2
 refine bodyPost_ret (results_cell_row rfl _ _ gb250 37 #[.int .i64 t257, .int .i64 t258, .int .i64 t259, .int .i64 t260] (0, 0) _ rfl (by (with_reducible repeat (first | refine Xe ?_ _ | refine Xg ?_ | refine Xf ?_ _)); refine blk_put (cs := #[.int .i64 t257, .int .i64 t258, .int .i64 t259, .int .i64 0]) ?_ 3 _ rfl; (with_reducible repeat (first | refine Xe ?_ _ | refine Xg ?_ | refine Xf ?_ _)); refine blk_put (cs := #[.int .i64 t257, .int .i64 t258, .int .i64 0, .int .i64 0]) ?_ 2 _ rfl; (with_reducible repeat (first | refine Xe ?_ _ | refine Xg ?_ | refine Xf ?_ _)); refine blk_put (cs := #[.int .i64 t257, .int .i64 0, .int .i64 0, .int .i64 0]) ?_ 1 _ rfl; (with_reducible repeat (first | refine Xe ?_ _ | refine Xg ?_ | refine Xf ?_ _)); refine blk_put (cs := #[.int .i64 0, .int .i64 0, .int .i64 0, .int .i64 0]) ?_ 0 _ rfl; (with_reducible repeat (first | refine Xe ?_ _ | refine Xg ?_ | refine Xf ?_ _)); exact BK250.out) Try.underlying37 rfl (by kernel_rfl)) rfl ?_
 exact ⟨by first | rfl | (simp [errW_none, errW_some] <;> rfl) | (simp [*, errW_none, errW_some] <;> rfl), by repeat (first | (with_reducible first | exact HB.out | apply below_alloc | apply pw_below_drewN | apply below_drew1 | refine below_set ?_ GE248.out | refine below_set ?_ GE249.out | refine below_set ?_ GE250.out | refine below_set ?_ GE253.out | refine below_set ?_ GE256.out) | exact HB.out)⟩

/-! ### gatherumref38_Lies: function 40 -/
def gatherumref38_Lies.f (k : Nat) (a0_0 : Int) (a0_1 : Int) (a0_2 : Int) (a0_3 : Int) (a0_4 : Int) (a0_5 : Int) (a0_6 : Int) : Option (Int × Int × Int × Int) := (gatherumref04_Box.f k a0_4 a0_5 a0_6 a0_0 a0_1 a0_2 a0_3).bind fun bt263 => (some (bt263.1, bt263.2.1, bt263.2.2.1, bt263.2.2.2))
theorem gatherumref38_Lies.mono : ∀ a0 a1 a2 a3 a4 a5 a6 k, LeO (gatherumref38_Lies.f k a0 a1 a2 a3 a4 a5 a6) (gatherumref38_Lies.f (k + 1) a0 a1 a2 a3 a4 a5 a6) := by
 intro a0 a1 a2 a3 a4 a5 a6 k
 unfold gatherumref38_Lies.f
 repeat' first
   | (with_reducible exact gatherumref04_Box.mono _ _ _ _ _ _ _ _)
   | (with_reducible exact LeO.refl _)
   | (with_reducible exact LeO.none _)
   | (with_reducible refine LeO.ite ?_ ?_)
   | (with_reducible refine LeO.bind ?_ (fun _ => ?_))
   | exact gatherumref04_Box.mono _ _ _ _ _ _ _ _
   | exact LeO.none _
   | refine LeO.ite ?_ ?_
   | refine LeO.bind ?_ (fun _ => ?_)
set_option maxHeartbeats 8000000 in
set_option maxRecDepth 100000 in
theorem gatherumref38_Lies.calls (k : Nat) (a0_0 : Int) (a0_1 : Int) (a0_2 : Int) (a0_3 : Int) (a0_4 : Int) (a0_5 : Int) (a0_6 : Int) (r1 : Int) (r2 : Int) (r3 : Int) (r4 : Int) (w : World) (h : gatherumref38_Lies.f k a0_0 a0_1 a0_2 a0_3 a0_4 a0_5 a0_6 = some (r1, r2, r3, r4)) :
  Calls Try.prog 40 #[.agg #[.int .i64 a0_0, .int .i64 a0_1, .int .i64 a0_2, .int .i64 a0_3, .int .i64 a0_4, .int .i64 a0_5, .int .i64 a0_6]] w fun e w' => e = .returned (.agg #[.int .i64 r1, .int .i64 r2, .int .i64 r3, .int .i64 r4]) ∧ Below w.heap.size w w' := by
 have hu55 := Try.underlying55
 have hu37 := Try.underlying37
 have hu32 := Try.underlying32
 have HB := Za (Below.refl w.heap.size w)
 have H : ((gatherumref04_Box.f k a0_4 a0_5 a0_6 a0_0 a0_1 a0_2 a0_3).bind fun bt263 => (some (bt263.1, bt263.2.1, bt263.2.2.1, bt263.2.2.2))) = some (r1, r2, r3, r4) := h
 clear h
 replace H := Option.bind_eq_some_iff.mp H
 obtain ⟨⟨t263, t264, t265, t266⟩, A20, H⟩ := H
 replace H : (some (t263, t264, t265, t266)) = some (r1, r2, r3, r4) := H
 have A2 := Za A20
 clear A20
 simp only [Option.some.injEq, Prod.mk.injEq] at H
 obtain ⟨rfl, rfl, rfl, rfl⟩ := H
 go_enter Try.func40, Try.ntmps40
 go_wp2_with (first | ((with_reducible refine gate_dst (N := 1) rfl ?_); refine box_event ?hg (N := 1) ?hd (cs := #[.int .i64 a0_0, .int .i64 a0_1, .int .i64 a0_2, .int .i64 a0_3, .int .i64 a0_4, .int .i64 a0_5, .int .i64 a0_6]) (t := 55) ?hr ?_; (case hd => rfl); (case hg => rfl); (case hr => first | (go_simp; done) | (go_simp; rfl)); intro gb261 hg w3 hbox hb; have n0_ := Za (below_step (hb_9 HB.out) hb); have n1_ := Za (hbox); have n2_ := Za ((by rw [hg]; exact (below_size (hb_9 HB.out)) : w.heap.size ≤ gb261)); have n3_ := Za ((by rw [hg]; exact (below_size (hb_9 HB.out)) : w.heap.size ≤ gb261)); clear HB; have HB := n0_; have BK261 := n1_; have GW261 := n2_; have GE261 := n3_; clear n0_ n1_ n2_ n3_; clear hb hbox hg) | ((with_reducible refine gate_dst (N := 2) rfl ?_); refine box_event ?hg (N := 2) ?hd (cs := #[.int .i64 0, .int .i64 0, .int .i64 0, .int .i64 0]) (t := 37) ?hr ?_; (case hd => rfl); (case hg => rfl); (case hr => first | (go_simp; done) | (go_simp; rfl)); intro gb262 hg w4 hbox hb; have n0_ := Za (Xi (g := gb261) (o := .cells #[.int .i64 a0_0, .int .i64 a0_1, .int .i64 a0_2, .int .i64 a0_3, .int .i64 a0_4, .int .i64 a0_5, .int .i64 a0_6] 55 (0, 0)) (bb_9 BK261.out) hb); have n1_ := Za (below_step (hb_9 HB.out) hb); have n2_ := Za (hbox); have n3_ := Za ((by rw [hg]; exact (below_size (hb_9 HB.out)) : w.heap.size ≤ gb262)); have n4_ := Za ((by rw [hg]; exact (below_size (hb_9 HB.out)) : w.heap.size ≤ gb262)); have n5_ := Za ((by rw [hg]; exact Nat.ne_of_lt (blk_lt (g := gb261) (o := .cells #[.int .i64 a0_0, .int .i64 a0_1, .int .i64 a0_2, .int .i64 a0_3, .int .i64 a0_4, .int .i64 a0_5, .int .i64 a0_6] 55 (0, 0)) (bb_9 BK261.out)) : gb261 ≠ gb262)); have n6_ := Za ((by rw [hg]; exact Nat.ne_of_gt (blk_lt (g := gb261) (o := .cells #[.int .i64 a0_0, .int .i64 a0_1, .int .i64 a0_2, .int .i64 a0_3, .int .i64 a0_4, .int .i64 a0_5, .int .i64 a0_6] 55 (0, 0)) (bb_9 BK261.out)) : gb262 ≠ gb261)); clear BK261; clear HB; have BK261 := n0_; have HB := n1_; have BK262 := n2_; have GW262 := n3_; have GE262 := n4_; have NB261_262 := n5_; have NB262_261 := n6_; clear n0_ n1_ n2_ n3_ n4_ n5_ n6_; clear hb hbox hg; have hnb5 := NB261_262.out; have hnc5 := NB262_261.out; have hcz6_0 : w4.cell? ⟨gb261, 0, none⟩ = some (.int .i64 a0_0) := (Xd BK261.out 0).trans rfl; have hcz6_1 : w4.cell? ⟨gb261, 1, none⟩ = some (.int .i64 a0_1) := (Xd BK261.out 1).trans rfl; have hcz6_2 : w4.cell? ⟨gb261, 2, none⟩ = some (.int .i64 a0_2) := (Xd BK261.out 2).trans rfl; have hcz6_3 : w4.cell? ⟨gb261, 3, none⟩ = some (.int .i64 a0_3) := (Xd BK261.out 3).trans rfl; have hcz6_4 : w4.cell? ⟨gb261, 4, none⟩ = some (.int .i64 a0_4) := (Xd BK261.out 4).trans rfl; have hcz6_5 : w4.cell? ⟨gb261, 5, none⟩ = some (.int .i64 a0_5) := (Xd BK261.out 5).trans rfl; have hcz6_6 : w4.cell? ⟨gb261, 6, none⟩ = some (.int .i64 a0_6) := (Xd BK261.out 6).trans rfl; have hfz6_0 := Xh BK261.out 0; have hfz6_1 := Xh BK261.out 1; have hfz6_2 := Xh BK261.out 2; have hfz6_3 := Xh BK261.out 3; have hfz6_4 := Xh BK261.out 4; have hfz6_5 := Xh BK261.out 5; have hfz6_6 := Xh BK261.out 6) | ((with_reducible refine gate_callee (f := 20) rfl ?_); refine goesL_ (some 7) rfl rfl Try.func20 (by kernel_rfl) rfl #[.agg #[.int .i64 a0_4, .int .i64 a0_5, .int .i64 a0_6], .agg #[.int .i64 a0_0, .int .i64 a0_1, .int .i64 a0_2, .int .i64 a0_3]] rfl (by (try simp only [List.map_toArray, List.map_cons, List.map_nil]); first | done | rfl | (simp only [List.length_drop, List.length_take]; rfl)) ?_; (with_reducible refine (gatherumref04_Box.calls k a0_4 a0_5 a0_6 a0_0 a0_1 a0_2 a0_3 t263 t264 t265 t266 _ A2.out).mono ?_); rintro e w7 ⟨rfl, hb⟩; refine ⟨_, rfl, ?_⟩; have n0_ := Za (Xi (g := gb261) (o := .cells #[.int .i64 a0_0, .int .i64 a0_1, .int .i64 a0_2, .int .i64 a0_3, .int .i64 a0_4, .int .i64 a0_5, .int .i64 a0_6] 55 (0, 0)) (bb_9 BK261.out) hb); have n1_ := Za (Xi (g := gb262) (o := .cells #[.int .i64 0, .int .i64 0, .int .i64 0, .int .i64 0] 37 (0, 0)) (bb_9 BK262.out) hb); have n2_ := Za (below_step (hb_9 HB.out) hb); clear BK261; clear BK262; clear HB; have BK261 := n0_; have BK262 := n1_; have HB := n2_; clear n0_ n1_ n2_; (try clear hb); (try clear hb2); (try clear hk); (try clear hi); have hcz8_0 : w7.cell? ⟨gb262, 0, none⟩ = some (.int .i64 0) := (Xd BK262.out 0).trans rfl; have hcz8_1 : w7.cell? ⟨gb262, 1, none⟩ = some (.int .i64 0) := (Xd BK262.out 1).trans rfl; have hcz8_2 : w7.cell? ⟨gb262, 2, none⟩ = some (.int .i64 0) := (Xd BK262.out 2).trans rfl; have hcz8_3 : w7.cell? ⟨gb262, 3, none⟩ = some (.int .i64 0) := (Xd BK262.out 3).trans rfl; have hfz8_0 := Xh BK262.out 0; have hfz8_1 := Xh BK262.out 1; have hfz8_2 := Xh BK262.out 2; have hfz8_3 := Xh BK262.out 3))
 refine bodyPost_ret (results_cell_row rfl _ _ gb262 37 #[.int .i64 t263, .int .i64 t264, .int .i64 t265, .int .i64 t266] (0, 0) _ rfl (by (with_reducible repeat (first | refine Xe ?_ _ | refine Xg ?_ | refine Xf ?_ _)); refine blk_put (cs := #[.int .i64 t263, .int .i64 t264, .int .i64 t265, .int .i64 0]) ?_ 3 _ rfl; (with_reducible repeat (first | refine Xe ?_ _ | refine Xg ?_ | refine Xf ?_ _)); refine blk_put (cs := #[.int .i64 t263, .int .i64 t264, .int .i64 0, .int .i64 0]) ?_ 2 _ rfl; (with_reducible repeat (first | refine Xe ?_ _ | refine Xg ?_ | refine Xf ?_ _)); refine blk_put (cs := #[.int .i64 t263, .int .i64 0, .int .i64 0, .int .i64 0]) ?_ 1 _ rfl; (with_reducible repeat (first | refine Xe ?_ _ | refine Xg ?_ | refine Xf ?_ _)); refine blk_put (cs := #[.int .i64 0, .int .i64 0, .int .i64 0, .int .i64 0]) ?_ 0 _ rfl; (with_reducible repeat (first | refine Xe ?_ _ | refine Xg ?_ | refine Xf ?_ _)); exact BK262.out) Try.underlying37 rfl (by kernel_rfl)) rfl ?_
 exact ⟨by first | rfl | (simp [errW_none, errW_some] <;> rfl) | (simp [*, errW_none, errW_some] <;> rfl), by repeat (first | (with_reducible first | exact HB.out | apply below_alloc | apply pw_below_drewN | apply below_drew1 | refine below_set ?_ GE261.out | refine below_set ?_ GE262.out) | exact HB.out)⟩

/-! ### gatherumref01_In: function 81 -/
def gatherumref01_In.f (a0 : Int) (a1 : Int) (a2 : Int) : Option (Bool) := if a0 ≥ a1 then (some (decide (a0 ≤ a2))) else (some Zf)
set_option maxHeartbeats 8000000 in
set_option maxRecDepth 100000 in
theorem gatherumref01_In.calls (a0 : Int) (a1 : Int) (a2 : Int) (r : Bool) (w : World) (h : gatherumref01_In.f a0 a1 a2 = some r) :
  Calls Try.prog 81 #[.int .i64 a0, .int .i64 a1, .int .i64 a2] w fun e w' => e = .returned (.bool r) ∧ Drawn0 w w' := by
 have H : (if a0 ≥ a1 then (some (decide (a0 ≤ a2))) else (some Zf)) = some r := h
 clear h
 by_cases c4 : a0 ≥ a1
 ·rw [if_pos c4] at H
  have c4b0 : decide (a1 ≤ a0) = Zt := decide_eq_true c4
  clear c4
  obtain rfl := Option.some.inj H
  go_enter Try.func81, Try.ntmps81
  go_wp2
  go_ret
  exact ⟨by first | rfl | (simp; done) | (simp [*]; done), by repeat (first | exact Drawn0.refl _ | apply Drawn0.step)⟩
 ·rw [if_neg c4] at H
  have c4b0 : decide (a1 ≤ a0) = Zf := decide_eq_false c4
  clear c4
  obtain rfl := Option.some.inj H
  go_enter Try.func81, Try.ntmps81
  go_wp2
  go_ret
  exact ⟨by first | rfl | (simp; done) | (simp [*]; done), by repeat (first | exact Drawn0.refl _ | apply Drawn0.step)⟩

end Go.Proofs.Ythgmjhidigoneaa.PLayerKeeps
