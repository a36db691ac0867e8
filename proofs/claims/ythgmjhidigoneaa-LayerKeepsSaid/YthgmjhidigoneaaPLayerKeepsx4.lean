import Derived.Test.YthgmjhidigoneaaPLayerKeepsx0
namespace Go.Proofs.Ythgmjhidigoneaa.PLayerKeeps
open Go.RowKit Go.Proofs.YthgmjhidigoneaaW.PrintWords Go.Proofs.YthgmjhidigoneaaW.PrintLast Go.Proofs.YthgmjhidigoneaaW.PrintMore
open Bool renaming false → Zf
open Go.Proofs.YthgmjhidigoneaaW.PrintWords.Aside0 renaming mk → Za
open List renaming setIfInBounds_toArray → Xa
open Go.Proofs.YthgmjhidigoneaaW.PrintWords renaming blk_frozen → Xd, blk_cell → Xe, blk_drewN → Xf, blk_alloc → Xg, blk_drew → Xh, below_size → Xi
attribute [local go_sem] max2_int min2_int max_two min_two max_three min_three max_four min_four   -- for this text's walks alone
set_option linter.unusedVariables false
set_option linter.unusedSimpArgs false
theorem bb_4 {p q : Prop} (h : q) (f : q → p := by intro h_; (with_reducible repeat (first | refine blk_drewN ?_ _ | refine blk_drew ?_ | refine blk_alloc ?_ _)); exact h_) : p := f h
theorem hb_4 {B : Nat} {w W W1 : World} (h : Below B w W) (f : Below B w W → Below B w W1 := by intro h_; repeat (first | (with_reducible first | exact h_ | apply below_alloc | apply pw_below_drewN | apply below_drew1 | refine below_set ?_ (Aside0.out (by assumption))) | exact h_)) : Below B w W1 := f h

/-! ### turn_Mirrors: function 84 -/
def turn_Mirrors.f (a0 : Int) : Option (Bool) := some ((Go.bits .and .i64 a0 4) != 0)
set_option maxHeartbeats 8000000 in
set_option maxRecDepth 100000 in
theorem turn_Mirrors.calls (a0 : Int) (r : Bool) (w : World) (h : turn_Mirrors.f a0 = some r) :
  Calls Try.prog 84 #[.int .i64 a0] w fun e w' => e = .returned (.bool r) ∧ Drawn0 w w' := by
 have H : (some ((Go.bits .and .i64 a0 4) != 0)) = some r := h
 clear h
 obtain rfl := Option.some.inj H
 go_enter Try.func84, Try.ntmps84
 go_wp2
 go_ret
 exact ⟨by first | rfl | (simp; done) | (simp [*]; done), by repeat (first | exact Drawn0.refl _ | apply Drawn0.step)⟩

/-! ### turn_Do: function 100 -/
mutual
def turn_Do.j0 : Nat → Int → Int → Int → Option (Int × Int)
 | 0, _, _, _ => none
 | k + 1, x0, x102000, x102001 => turn_Do.l0 k (Go.bits .and .i64 x0 3) 0 x102000 x102001
def turn_Do.l0 : Nat → Int → Int → Int → Int → Option (Int × Int)
 | 0, _, _, _, _ => none
 | k + 1, x12, x13, x102000, x102001 => if x13 < x12 then (turn_Do.l0 k x12 (wrap64 (x13 + 1)) (wrap64 (-x102001)) x102000) else (some (x102000, x102001))
end
def turn_Do.f (k : Nat) (a0 : Int) (a1_0 : Int) (a1_1 : Int) : Option (Int × Int) := (turn_Mirrors.f a0).bind fun t103 => (if t103 = true then (turn_Do.j0 k a0 (wrap64 (-a1_0)) a1_1) else (turn_Do.j0 k a0 a1_0 a1_1))
theorem turn_Do.mono_l : ∀ k, (∀ y0 y1 y2, LeO (turn_Do.j0 k y0 y1 y2) (turn_Do.j0 (k + 1) y0 y1 y2)) ∧ (∀ y0 y1 y2 y3, LeO (turn_Do.l0 k y0 y1 y2 y3) (turn_Do.l0 (k + 1) y0 y1 y2 y3))
 | 0 => ⟨fun _ _ _ r h => by simp [turn_Do.j0] at h, fun _ _ _ _ r h => by simp [turn_Do.l0] at h⟩
 | k + 1 => by
  obtain ⟨ih0, ih1⟩ := turn_Do.mono_l k
  refine ⟨?_, ?_⟩
  ·intro y0 y1 y2
   unfold turn_Do.j0
   repeat' first
   | (with_reducible exact ih0 _ _ _)
   | (with_reducible exact ih1 _ _ _ _)
   | (with_reducible exact LeO.refl _)
   | (with_reducible exact LeO.none _)
   | (with_reducible refine LeO.ite ?_ ?_)
   | (with_reducible refine LeO.bind ?_ (fun _ => ?_))
   | exact ih0 _ _ _
   | exact ih1 _ _ _ _
   | exact LeO.none _
   | refine LeO.ite ?_ ?_
   | refine LeO.bind ?_ (fun _ => ?_)
  ·intro y0 y1 y2 y3
   unfold turn_Do.l0
   repeat' first
   | (with_reducible exact ih0 _ _ _)
   | (with_reducible exact ih1 _ _ _ _)
   | (with_reducible exact LeO.refl _)
   | (with_reducible exact LeO.none _)
   | (with_reducible refine LeO.ite ?_ ?_)
   | (with_reducible refine LeO.bind ?_ (fun _ => ?_))
   | exact ih0 _ _ _
   | exact ih1 _ _ _ _
   | exact LeO.none _
   | refine LeO.ite ?_ ?_
   | refine LeO.bind ?_ (fun _ => ?_)
theorem turn_Do.mono : ∀ a0 a1 a2 k, LeO (turn_Do.f k a0 a1 a2) (turn_Do.f (k + 1) a0 a1 a2) := by
 intro a0 a1 a2 k
 obtain ⟨ih0, ih1⟩ := turn_Do.mono_l k
 unfold turn_Do.f
 repeat' first
   | (with_reducible exact ih0 _ _ _)
   | (with_reducible exact ih1 _ _ _ _)
   | (with_reducible exact LeO.refl _)
   | (with_reducible exact LeO.none _)
   | (with_reducible refine LeO.ite ?_ ?_)
   | (with_reducible refine LeO.bind ?_ (fun _ => ?_))
   | exact ih0 _ _ _
   | exact ih1 _ _ _ _
   | exact LeO.none _
   | refine LeO.ite ?_ ?_
   | refine LeO.bind ?_ (fun _ => ?_)
set_option maxHeartbeats 8000000 in
set_option maxRecDepth 100000 in
theorem turn_Do.calls (k : Nat) (a0 : Int) (a1_0 : Int) (a1_1 : Int) (r1 : Int) (r2 : Int) (w : World) (h : turn_Do.f k a0 a1_0 a1_1 = some (r1, r2)) :
  Calls Try.prog 100 #[.int .i64 a0, .agg #[.int .i64 a1_0, .int .i64 a1_1]] w fun e w' => e = .returned (.agg #[.int .i64 r1, .int .i64 r2]) ∧ Below w.heap.size w w' := by
 have hu23 := Try.underlying23
 have HB := Za (Below.refl w.heap.size w)
 have H : ((turn_Mirrors.f a0).bind fun t103 => (if t103 = true then (turn_Do.j0 k a0 (wrap64 (-a1_0)) a1_1) else (turn_Do.j0 k a0 a1_0 a1_1))) = some (r1, r2) := h
 clear h
 replace H := Option.bind_eq_some_iff.mp H
 obtain ⟨t103, A30, H⟩ := H
 replace H : (if t103 = true then (turn_Do.j0 k a0 (wrap64 (-a1_0)) a1_1) else (turn_Do.j0 k a0 a1_0 a1_1)) = some (r1, r2) := H
 have A3 := Za A30
 clear A30
 have HC4 := Za H
 clear H
 go_enter Try.func100, Try.ntmps100
 go_upto_if 6 with (first | ((with_reducible refine gate_dst (N := 3) rfl ?_); refine box_event ?hg (N := 3) ?hd (cs := #[.int .i64 a1_0, .int .i64 a1_1]) (t := 23) ?hr ?_; (case hd => rfl); (case hg => rfl); (case hr => first | (go_simp; done) | (go_simp; rfl)); intro gb101 hg w5 hbox hb; have n0_ := Za (below_step (hb_4 HB.out) hb); have n1_ := Za (hbox); have n2_ := Za ((by rw [hg]; exact (Xi (hb_4 HB.out)) : w.heap.size ≤ gb101)); have n3_ := Za ((by rw [hg]; exact (Xi (hb_4 HB.out)) : w.heap.size ≤ gb101)); clear HB; have HB := n0_; have BK101 := n1_; have GW101 := n2_; have GE101 := n3_; clear n0_ n1_ n2_ n3_; clear hb hbox hg) | ((with_reducible refine gate_dst (N := 4) rfl ?_); refine box_event ?hg (N := 4) ?hd (cs := #[.int .i64 0, .int .i64 0]) (t := 23) ?hr ?_; (case hd => rfl); (case hg => rfl); (case hr => first | (go_simp; done) | (go_simp; rfl)); intro gb102 hg w6 hbox hb; have n0_ := Za (blk_below (g := gb101) (o := .cells #[.int .i64 a1_0, .int .i64 a1_1] 23 (0, 0)) (bb_4 BK101.out) hb); have n1_ := Za (below_step (hb_4 HB.out) hb); have n2_ := Za (hbox); have n3_ := Za ((by rw [hg]; exact (Xi (hb_4 HB.out)) : w.heap.size ≤ gb102)); have n4_ := Za ((by rw [hg]; exact (Xi (hb_4 HB.out)) : w.heap.size ≤ gb102)); have n5_ := Za ((by rw [hg]; exact Nat.ne_of_lt (blk_lt (g := gb101) (o := .cells #[.int .i64 a1_0, .int .i64 a1_1] 23 (0, 0)) (bb_4 BK101.out)) : gb101 ≠ gb102)); have n6_ := Za ((by rw [hg]; exact Nat.ne_of_gt (blk_lt (g := gb101) (o := .cells #[.int .i64 a1_0, .int .i64 a1_1] 23 (0, 0)) (bb_4 BK101.out)) : gb102 ≠ gb101)); clear BK101; clear HB; have BK101 := n0_; have HB := n1_; have BK102 := n2_; have GW102 := n3_; have GE102 := n4_; have NB101_102 := n5_; have NB102_101 := n6_; clear n0_ n1_ n2_ n3_ n4_ n5_ n6_; clear hb hbox hg) | ((with_reducible refine gate_callee (f := 84) rfl ?_); refine goesL_ (some 6) rfl rfl Try.func84 (by kernel_rfl) rfl #[.int .i64 a0] rfl (by (try simp only [List.map_toArray, List.map_cons, List.map_nil]); first | done | rfl | (simp only [List.length_drop, List.length_take]; rfl)) ?_; (with_reducible refine (turn_Mirrors.calls a0 t103 _ A3.out).mono ?_); rintro e w' ⟨rfl, ⟨nd, rfl⟩⟩; refine ⟨_, rfl, ?_⟩))
 (try simp only [Act.put, Xa, List.set_cons_zero, List.set_cons_succ])
 go_cut [] (fun wc => ∃ (kq : Nat) (x102000_3 : Int), Aside0 (turn_Do.j0 kq a0 x102000_3 a1_1 = some (r1, r2)) ∧ Aside0 (kq ≤ k) ∧ Aside0 (wc.heap[gb101]? = some (.cells #[.int .i64 x102000_3, .int .i64 a1_1] 23 (0, 0))) ∧ Aside0 (wc.heap[gb102]? = some (.cells #[.int .i64 0, .int .i64 0] 23 (0, 0))) ∧ Aside0 (Below w.heap.size w wc))
 case first =>
  have H := HC4.out
  clear HC4
  by_cases c7 : t103 = true
  ·subst c7
   have H1 : (turn_Do.j0 k a0 (wrap64 (-a1_0)) a1_1) = some (r1, r2) := by rw [if_pos rfl] at H; exact H
   clear H
   have H := H1
   clear H1
   have H' := Za H
   clear H
   have hnb8 := NB101_102.out
   have hnc8 := NB102_101.out
   have hcz9_0 : w6.cell? ⟨gb101, 0, none⟩ = some (.int .i64 a1_0) := (Xe BK101.out 0).trans rfl
   have hcz9_1 : w6.cell? ⟨gb101, 1, none⟩ = some (.int .i64 a1_1) := (Xe BK101.out 1).trans rfl
   have hfz9_0 := Xd BK101.out 0
   have hfz9_1 := Xd BK101.out 1
   go_wp2
   go_meet
   case rel => exact ⟨_, (wrap64 (-a1_0)), H', ⟨by first | omega | exact Nat.le_refl _⟩, ⟨by (with_reducible repeat (first | refine Xf ?_ _ | refine Xh ?_ | refine Xg ?_ _)); refine blk_put (cs := #[.int .i64 a1_0, .int .i64 a1_1]) ?_ 0 _ rfl; (with_reducible repeat (first | refine Xf ?_ _ | refine Xh ?_ | refine Xg ?_ _)); exact BK101.out⟩, ⟨by (with_reducible repeat (first | refine Xf ?_ _ | refine Xh ?_ | refine Xg ?_ _)); refine blk_far ?_ NB102_101.out _; (with_reducible repeat (first | refine Xf ?_ _ | refine Xh ?_ | refine Xg ?_ _)); exact BK102.out⟩, ⟨by repeat (first | (with_reducible first | exact HB.out | apply below_alloc | apply pw_below_drewN | apply below_drew1 | refine below_set ?_ GE101.out | refine below_set ?_ GE102.out) | exact HB.out)⟩⟩
  ·replace c7 := Bool.eq_false_iff.mpr c7
   subst c7
   have H1 : (turn_Do.j0 k a0 a1_0 a1_1) = some (r1, r2) := by rw [if_neg (show ¬ (Zf = true) by decide)] at H; exact H
   clear H
   have H := H1
   clear H1
   have H' := Za H
   clear H
   go_wp2
   go_meet
   case rel => exact ⟨_, (a1_0), H', ⟨by first | omega | exact Nat.le_refl _⟩, ⟨by (with_reducible repeat (first | refine Xf ?_ _ | refine Xh ?_ | refine Xg ?_ _)); exact BK101.out⟩, ⟨by (with_reducible repeat (first | refine Xf ?_ _ | refine Xh ?_ | refine Xg ?_ _)); exact BK102.out⟩, ⟨by repeat (first | (with_reducible first | exact HB.out | apply below_alloc | apply pw_below_drewN | apply below_drew1 | refine below_set ?_ GE101.out | refine below_set ?_ GE102.out) | exact HB.out)⟩⟩
 case rest =>
  clear HC4
  try clear c1
  try clear p2
  try clear p6
  try clear c7
  try clear c8
  try clear hcz9_0
  try clear hcz9_1
  try clear hfz9_0
  try clear hfz9_1
  obtain ⟨kq, x102000_3, HA, HJ3, BK101, BK102, HB⟩ := hcut
  cases kq with
  | zero => exact absurd HA.out (by simp [turn_Do.j0])
  | succ kj3 =>
   have H := HA.out
   clear HA
   simp only [turn_Do.j0] at H
   have H' := Za H
   clear H
   go_wp2
   go_loopg [13] kj3 (fun kq v13 w' => ∃ (x13_2 : Int) (x102000_2 : Int) (x102001_2 : Int), v13 = .int .i64 x13_2 ∧ Aside0 (turn_Do.l0 kq (Go.bits .and .i64 a0 3) x13_2 x102000_2 x102001_2 = some (r1, r2)) ∧ Aside0 (kq ≤ kj3) ∧ Aside0 (w'.heap[gb101]? = some (.cells #[.int .i64 x102000_2, .int .i64 x102001_2] 23 (0, 0))) ∧ Aside0 (w'.heap[gb102]? = some (.cells #[.int .i64 0, .int .i64 0] 23 (0, 0))) ∧ Aside0 (Below w.heap.size w w'))
   case atStart => exact ⟨(0), (x102000_3), (a1_1), (by first | rfl | (simp; done) | (simp [*]; done)), H', ⟨Nat.le_refl _⟩, ⟨by (with_reducible repeat (first | refine Xf ?_ _ | refine Xh ?_ | refine Xg ?_ _)); exact BK101.out⟩, ⟨by (with_reducible repeat (first | refine Xf ?_ _ | refine Xh ?_ | refine Xg ?_ _)); exact BK102.out⟩, ⟨by repeat (first | (with_reducible first | exact HB.out | apply below_alloc | apply pw_below_drewN | apply below_drew1 | refine below_set ?_ GE101.out | refine below_set ?_ GE102.out) | exact HB.out)⟩⟩
   case round =>
    clear H'
    try clear c1
    try clear p2
    try clear p6
    try clear c7
    try clear c8
    try clear hcz9_0
    try clear hcz9_1
    try clear hfz9_0
    try clear hfz9_1
    try clear p2
    try clear p6
    obtain ⟨x13_2, x102000_2, x102001_2, rfl, HA, HK2, BK101, BK102, HB⟩ := hrel
    cases gk with
    | zero => exact absurd HA.out (by simp [turn_Do.l0])
    | succ k2 =>
     have H := HA.out
     clear HA
     simp only [turn_Do.l0] at H
     by_cases c10 : x13_2 < (Go.bits .and .i64 a0 3)
     ·rw [if_pos c10] at H
      have c10b0 : decide (x13_2 < (Go.bits .and .i64 a0 3)) = true := decide_eq_true c10
      clear c10
      have H' := Za H
      clear H
      have hnb11 := NB101_102.out
      have hnc11 := NB102_101.out
      have hcz12_0 : wr.cell? ⟨gb101, 0, none⟩ = some (.int .i64 x102000_2) := (Xe BK101.out 0).trans rfl
      have hcz12_1 : wr.cell? ⟨gb101, 1, none⟩ = some (.int .i64 x102001_2) := (Xe BK101.out 1).trans rfl
      have hfz12_0 := Xd BK101.out 0
      have hfz12_1 := Xd BK101.out 1
      go_wp2
      go_roundg k2
      case measure => have := HJ3.out; have := HK2.out; omega
      case rel => exact ⟨(wrap64 (x13_2 + 1)), (wrap64 (-x102001_2)), (x102000_2), (by first | rfl | (simp; done) | (simp [*]; done)), H', ⟨by have := HJ3.out; have := HK2.out; omega⟩, ⟨by (with_reducible repeat (first | refine Xf ?_ _ | refine Xh ?_ | refine Xg ?_ _)); refine blk_put (cs := #[.int .i64 (wrap64 (-x102001_2)), .int .i64 x102001_2]) ?_ 1 _ rfl; (with_reducible repeat (first | refine Xf ?_ _ | refine Xh ?_ | refine Xg ?_ _)); refine blk_put (cs := #[.int .i64 x102000_2, .int .i64 x102001_2]) ?_ 0 _ rfl; (with_reducible repeat (first | refine Xf ?_ _ | refine Xh ?_ | refine Xg ?_ _)); exact BK101.out⟩, ⟨by (with_reducible repeat (first | refine Xf ?_ _ | refine Xh ?_ | refine Xg ?_ _)); refine blk_far ?_ NB102_101.out _; (with_reducible repeat (first | refine Xf ?_ _ | refine Xh ?_ | refine Xg ?_ _)); refine blk_far ?_ NB102_101.out _; (with_reducible repeat (first | refine Xf ?_ _ | refine Xh ?_ | refine Xg ?_ _)); exact BK102.out⟩, ⟨by repeat (first | (with_reducible first | exact HB.out | apply below_alloc | apply pw_below_drewN | apply below_drew1 | refine below_set ?_ GE101.out | refine below_set ?_ GE102.out) | exact HB.out)⟩⟩
     ·rw [if_neg c10] at H
      have c10b0 : decide (x13_2 < (Go.bits .and .i64 a0 3)) = Zf := decide_eq_false c10
      clear c10
      simp only [Option.some.injEq, Prod.mk.injEq] at H
      obtain ⟨rfl, rfl⟩ := H
      have hnb13 := NB101_102.out
      have hnc13 := NB102_101.out
      have hcz14_0 : wr.cell? ⟨gb101, 0, none⟩ = some (.int .i64 x102000_2) := (Xe BK101.out 0).trans rfl
      have hcz14_1 : wr.cell? ⟨gb101, 1, none⟩ = some (.int .i64 x102001_2) := (Xe BK101.out 1).trans rfl
      have hfz14_0 := Xd BK101.out 0
      have hfz14_1 := Xd BK101.out 1
      have hcz15_0 : wr.cell? ⟨gb102, 0, none⟩ = some (.int .i64 0) := (Xe BK102.out 0).trans rfl
      have hcz15_1 : wr.cell? ⟨gb102, 1, none⟩ = some (.int .i64 0) := (Xe BK102.out 1).trans rfl
      have hfz15_0 := Xd BK102.out 0
      have hfz15_1 := Xd BK102.out 1
      go_wp2
      refine bodyPost_ret (results_cell_row rfl _ _ gb102 23 #[.int .i64 x102000_2, .int .i64 x102001_2] (0, 0) _ rfl (by (with_reducible repeat (first | refine Xf ?_ _ | refine Xh ?_ | refine Xg ?_ _)); refine blk_put (cs := #[.int .i64 x102000_2, .int .i64 0]) ?_ 1 _ rfl; (with_reducible repeat (first | refine Xf ?_ _ | refine Xh ?_ | refine Xg ?_ _)); refine blk_put (cs := #[.int .i64 0, .int .i64 0]) ?_ 0 _ rfl; (with_reducible repeat (first | refine Xf ?_ _ | refine Xh ?_ | refine Xg ?_ _)); exact BK102.out) Try.underlying23 rfl (by kernel_rfl)) rfl ?_
      exact ⟨by first | rfl | (simp [errW_none, errW_some] <;> rfl) | (simp [*, errW_none, errW_some] <;> rfl), by repeat (first | (with_reducible first | exact HB.out | apply below_alloc | apply pw_below_drewN | apply below_drew1 | refine below_set ?_ GE101.out | refine below_set ?_ GE102.out) | exact HB.out)⟩

/-! ### place_Do: function 97 -/
def place_Do.f (k : Nat) (a0_0 : Int) (a0_1 : Int) (a0_2 : Int) (a1_0 : Int) (a1_1 : Int) : Option (Int × Int) := (turn_Do.f k a0_0 a1_0 a1_1).bind fun bt107 => (some (wrap64 (bt107.1 + a0_1), wrap64 (bt107.2 + a0_2)))
theorem place_Do.mono : ∀ a0 a1 a2 a3 a4 k, LeO (place_Do.f k a0 a1 a2 a3 a4) (place_Do.f (k + 1) a0 a1 a2 a3 a4) := by
 intro a0 a1 a2 a3 a4 k
 unfold place_Do.f
 repeat' first
   | (with_reducible exact turn_Do.mono _ _ _ _)
   | (with_reducible exact LeO.refl _)
   | (with_reducible exact LeO.none _)
   | (with_reducible refine LeO.ite ?_ ?_)
   | (with_reducible refine LeO.bind ?_ (fun _ => ?_))
   | exact turn_Do.mono _ _ _ _
   | exact LeO.none _
   | refine LeO.ite ?_ ?_
   | refine LeO.bind ?_ (fun _ => ?_)
set_option maxHeartbeats 8000000 in
set_option maxRecDepth 100000 in
theorem place_Do.calls (k : Nat) (a0_0 : Int) (a0_1 : Int) (a0_2 : Int) (a1_0 : Int) (a1_1 : Int) (r1 : Int) (r2 : Int) (w : World) (h : place_Do.f k a0_0 a0_1 a0_2 a1_0 a1_1 = some (r1, r2)) :
  Calls Try.prog 97 #[.agg #[.int .i64 a0_0, .int .i64 a0_1, .int .i64 a0_2], .agg #[.int .i64 a1_0, .int .i64 a1_1]] w fun e w' => e = .returned (.agg #[.int .i64 r1, .int .i64 r2]) ∧ Below w.heap.size w w' := by
 have hu32 := Try.underlying32
 have hu23 := Try.underlying23
 have HB := Za (Below.refl w.heap.size w)
 have H : ((turn_Do.f k a0_0 a1_0 a1_1).bind fun bt107 => (some (wrap64 (bt107.1 + a0_1), wrap64 (bt107.2 + a0_2)))) = some (r1, r2) := h
 clear h
 replace H := Option.bind_eq_some_iff.mp H
 obtain ⟨⟨t107, t108⟩, A30, H⟩ := H
 replace H : (some (wrap64 (t107 + a0_1), wrap64 (t108 + a0_2))) = some (r1, r2) := H
 have A3 := Za A30
 clear A30
 simp only [Option.some.injEq, Prod.mk.injEq] at H
 obtain ⟨rfl, rfl⟩ := H
 go_enter Try.func97, Try.ntmps97
 go_wp2_with (first | ((with_reducible refine gate_dst (N := 2) rfl ?_); refine box_event ?hg (N := 2) ?hd (cs := #[.int .i64 a0_0, .int .i64 a0_1, .int .i64 a0_2]) (t := 32) ?hr ?_; (case hd => rfl); (case hg => rfl); (case hr => first | (go_simp; done) | (go_simp; rfl)); intro gb104 hg w4 hbox hb; have n0_ := Za (below_step (hb_4 HB.out) hb); have n1_ := Za (hbox); have n2_ := Za ((by rw [hg]; exact (Xi (hb_4 HB.out)) : w.heap.size ≤ gb104)); have n3_ := Za ((by rw [hg]; exact (Xi (hb_4 HB.out)) : w.heap.size ≤ gb104)); clear HB; have HB := n0_; have BK104 := n1_; have GW104 := n2_; have GE104 := n3_; clear n0_ n1_ n2_ n3_; clear hb hbox hg) | ((with_reducible refine gate_dst (N := 3) rfl ?_); refine box_event ?hg (N := 3) ?hd (cs := #[.int .i64 a1_0, .int .i64 a1_1]) (t := 23) ?hr ?_; (case hd => rfl); (case hg => rfl); (case hr => first | (go_simp; done) | (go_simp; rfl)); intro gb105 hg w5 hbox hb; have n0_ := Za (blk_below (g := gb104) (o := .cells #[.int .i64 a0_0, .int .i64 a0_1, .int .i64 a0_2] 32 (0, 0)) (bb_4 BK104.out) hb); have n1_ := Za (below_step (hb_4 HB.out) hb); have n2_ := Za (hbox); have n3_ := Za ((by rw [hg]; exact (Xi (hb_4 HB.out)) : w.heap.size ≤ gb105)); have n4_ := Za ((by rw [hg]; exact (Xi (hb_4 HB.out)) : w.heap.size ≤ gb105)); have n5_ := Za ((by rw [hg]; exact Nat.ne_of_lt (blk_lt (g := gb104) (o := .cells #[.int .i64 a0_0, .int .i64 a0_1, .int .i64 a0_2] 32 (0, 0)) (bb_4 BK104.out)) : gb104 ≠ gb105)); have n6_ := Za ((by rw [hg]; exact Nat.ne_of_gt (blk_lt (g := gb104) (o := .cells #[.int .i64 a0_0, .int .i64 a0_1, .int .i64 a0_2] 32 (0, 0)) (bb_4 BK104.out)) : gb105 ≠ gb104)); clear BK104; clear HB; have BK104 := n0_; have HB := n1_; have BK105 := n2_; have GW105 := n3_; have GE105 := n4_; have NB104_105 := n5_; have NB105_104 := n6_; clear n0_ n1_ n2_ n3_ n4_ n5_ n6_; clear hb hbox hg) | ((with_reducible refine gate_dst (N := 4) rfl ?_); refine box_event ?hg (N := 4) ?hd (cs := #[.int .i64 0, .int .i64 0]) (t := 23) ?hr ?_; (case hd => rfl); (case hg => rfl); (case hr => first | (go_simp; done) | (go_simp; rfl)); intro gb106 hg w6 hbox hb; have n0_ := Za (blk_below (g := gb104) (o := .cells #[.int .i64 a0_0, .int .i64 a0_1, .int .i64 a0_2] 32 (0, 0)) (bb_4 BK104.out) hb); have n1_ := Za (blk_below (g := gb105) (o := .cells #[.int .i64 a1_0, .int .i64 a1_1] 23 (0, 0)) (bb_4 BK105.out) hb); have n2_ := Za (below_step (hb_4 HB.out) hb); have n3_ := Za (hbox); have n4_ := Za ((by rw [hg]; exact (Xi (hb_4 HB.out)) : w.heap.size ≤ gb106)); have n5_ := Za ((by rw [hg]; exact (Xi (hb_4 HB.out)) : w.heap.size ≤ gb106)); have n6_ := Za ((by rw [hg]; exact Nat.ne_of_lt (blk_lt (g := gb104) (o := .cells #[.int .i64 a0_0, .int .i64 a0_1, .int .i64 a0_2] 32 (0, 0)) (bb_4 BK104.out)) : gb104 ≠ gb106)); have n7_ := Za ((by rw [hg]; exact Nat.ne_of_gt (blk_lt (g := gb104) (o := .cells #[.int .i64 a0_0, .int .i64 a0_1, .int .i64 a0_2] 32 (0, 0)) (bb_4 BK104.out)) : gb106 ≠ gb104)); have n8_ := Za ((by rw [hg]; exact Nat.ne_of_lt (blk_lt (g := gb105) (o := .cells #[.int .i64 a1_0, .int .i64 a1_1] 23 (0, 0)) (bb_4 BK105.out)) : gb105 ≠ gb106)); have n9_ := Za ((by rw [hg]; exact Nat.ne_of_gt (blk_lt (g := gb105) (o := .cells #[.int .i64 a1_0, .int .i64 a1_1] 23 (0, 0)) (bb_4 BK105.out)) : gb106 ≠ gb105)); clear BK104; clear BK105; clear HB; have BK104 := n0_; have BK105 := n1_; have HB := n2_; have BK106 := n3_; have GW106 := n4_; have GE106 := n5_; have NB104_106 := n6_; have NB106_104 := n7_; have NB105_106 := n8_; have NB106_105 := n9_; clear n0_ n1_ n2_ n3_ n4_ n5_ n6_ n7_ n8_ n9_; clear hb hbox hg; have hnb7 := NB104_105.out; have hnc7 := NB105_104.out; have hnb8 := NB104_106.out; have hnc8 := NB106_104.out; have hcz9_0 : w6.cell? ⟨gb104, 0, none⟩ = some (.int .i64 a0_0) := (Xe BK104.out 0).trans rfl; have hcz9_1 : w6.cell? ⟨gb104, 1, none⟩ = some (.int .i64 a0_1) := (Xe BK104.out 1).trans rfl; have hcz9_2 : w6.cell? ⟨gb104, 2, none⟩ = some (.int .i64 a0_2) := (Xe BK104.out 2).trans rfl; have hfz9_0 := Xd BK104.out 0; have hfz9_1 := Xd BK104.out 1; have hfz9_2 := Xd BK104.out 2; have hnb10 := NB105_106.out; have hnc10 := NB106_105.out; have hcz11_0 : w6.cell? ⟨gb105, 0, none⟩ = some (.int .i64 a1_0) := (Xe BK105.out 0).trans rfl; have hcz11_1 : w6.cell? ⟨gb105, 1, none⟩ = some (.int .i64 a1_1) := (Xe BK105.out 1).trans rfl; have hfz11_0 := Xd BK105.out 0; have hfz11_1 := Xd BK105.out 1) | ((with_reducible refine gate_callee (f := 100) rfl ?_); refine goesL_ (some 9) rfl rfl Try.func100 (by kernel_rfl) rfl #[.int .i64 a0_0, .agg #[.int .i64 a1_0, .int .i64 a1_1]] rfl (by (try simp only [List.map_toArray, List.map_cons, List.map_nil]); first | done | rfl | (simp only [List.length_drop, List.length_take]; rfl)) ?_; (with_reducible refine (turn_Do.calls k a0_0 a1_0 a1_1 t107 t108 _ A3.out).mono ?_); rintro e w12 ⟨rfl, hb⟩; refine ⟨_, rfl, ?_⟩; have n0_ := Za (blk_below (g := gb104) (o := .cells #[.int .i64 a0_0, .int .i64 a0_1, .int .i64 a0_2] 32 (0, 0)) (bb_4 BK104.out) hb); have n1_ := Za (blk_below (g := gb105) (o := .cells #[.int .i64 a1_0, .int .i64 a1_1] 23 (0, 0)) (bb_4 BK105.out) hb); have n2_ := Za (blk_below (g := gb106) (o := .cells #[.int .i64 0, .int .i64 0] 23 (0, 0)) (bb_4 BK106.out) hb); have n3_ := Za (below_step (hb_4 HB.out) hb); clear BK104; clear BK105; clear BK106; clear HB; have BK104 := n0_; have BK105 := n1_; have BK106 := n2_; have HB := n3_; clear n0_ n1_ n2_ n3_; (try clear hb); (try clear hb2); (try clear hk); (try clear hi)) | ((with_reducible refine gate_dst (N := 5) rfl ?_); refine box_event ?hg (N := 5) ?hd (cs := #[.int .i64 0, .int .i64 0]) (t := 23) ?hr ?_; (case hd => rfl); (case hg => rfl); (case hr => first | (go_simp; done) | (go_simp; rfl)); intro gb109 hg w13 hbox hb; have n0_ := Za (blk_below (g := gb104) (o := .cells #[.int .i64 a0_0, .int .i64 a0_1, .int .i64 a0_2] 32 (0, 0)) (bb_4 BK104.out) hb); have n1_ := Za (blk_below (g := gb105) (o := .cells #[.int .i64 a1_0, .int .i64 a1_1] 23 (0, 0)) (bb_4 BK105.out) hb); have n2_ := Za (blk_below (g := gb106) (o := .cells #[.int .i64 0, .int .i64 0] 23 (0, 0)) (bb_4 BK106.out) hb); have n3_ := Za (below_step (hb_4 HB.out) hb); have n4_ := Za (hbox); have n5_ := Za ((by rw [hg]; exact (Xi (hb_4 HB.out)) : w.heap.size ≤ gb109)); have n6_ := Za ((by rw [hg]; exact (Xi (hb_4 HB.out)) : w.heap.size ≤ gb109)); have n7_ := Za ((by rw [hg]; exact Nat.ne_of_lt (blk_lt (g := gb104) (o := .cells #[.int .i64 a0_0, .int .i64 a0_1, .int .i64 a0_2] 32 (0, 0)) (bb_4 BK104.out)) : gb104 ≠ gb109)); have n8_ := Za ((by rw [hg]; exact Nat.ne_of_gt (blk_lt (g := gb104) (o := .cells #[.int .i64 a0_0, .int .i64 a0_1, .int .i64 a0_2] 32 (0, 0)) (bb_4 BK104.out)) : gb109 ≠ gb104)); have n9_ := Za ((by rw [hg]; exact Nat.ne_of_lt (blk_lt (g := gb105) (o := .cells #[.int .i64 a1_0, .int .i64 a1_1] 23 (0, 0)) (bb_4 BK105.out)) : gb105 ≠ gb109)); have n10_ := Za ((by rw [hg]; exact Nat.ne_of_gt (blk_lt (g := gb105) (o := .cells #[.int .i64 a1_0, .int .i64 a1_1] 23 (0, 0)) (bb_4 BK105.out)) : gb109 ≠ gb105)); have n11_ := Za ((by rw [hg]; exact Nat.ne_of_lt (blk_lt (g := gb106) (o := .cells #[.int .i64 0, .int .i64 0] 23 (0, 0)) (bb_4 BK106.out)) : gb106 ≠ gb109)); have n12_ := Za ((by rw [hg]; exact Nat.ne_of_gt (blk_lt (g := gb106) (o := .cells #[.int .i64 0, .int .i64 0] 23 (0, 0)) (bb_4 BK106.out)) : gb109 ≠ gb106)); clear BK104; clear BK105; clear BK106; clear HB; have BK104 := n0_; have BK105 := n1_; have BK106 := n2_; have HB := n3_; have BK109 := n4_; have GW109 := n5_; have GE109 := n6_; have NB104_109 := n7_; have NB109_104 := n8_; have NB105_109 := n9_; have NB109_105 := n10_; have NB106_109 := n11_; have NB109_106 := n12_; clear n0_ n1_ n2_ n3_ n4_ n5_ n6_ n7_ n8_ n9_ n10_ n11_ n12_; clear hb hbox hg; have hnb14 := NB109_104.out; have hnc14 := NB104_109.out; have hnb15 := NB109_105.out; have hnc15 := NB105_109.out; have hnb16 := NB109_106.out; have hnc16 := NB106_109.out; have hcz17_0 : w13.cell? ⟨gb109, 0, none⟩ = some (.int .i64 0) := (Xe BK109.out 0).trans rfl; have hcz17_1 : w13.cell? ⟨gb109, 1, none⟩ = some (.int .i64 0) := (Xe BK109.out 1).trans rfl; have hfz17_0 := Xd BK109.out 0; have hfz17_1 := Xd BK109.out 1; have hcz18_0 : w13.cell? ⟨gb104, 0, none⟩ = some (.int .i64 a0_0) := (Xe BK104.out 0).trans rfl; have hcz18_1 : w13.cell? ⟨gb104, 1, none⟩ = some (.int .i64 a0_1) := (Xe BK104.out 1).trans rfl; have hcz18_2 : w13.cell? ⟨gb104, 2, none⟩ = some (.int .i64 a0_2) := (Xe BK104.out 2).trans rfl; have hfz18_0 := Xd BK104.out 0; have hfz18_1 := Xd BK104.out 1; have hfz18_2 := Xd BK104.out 2; have hcz19_0 : w13.cell? ⟨gb106, 0, none⟩ = some (.int .i64 0) := (Xe BK106.out 0).trans rfl; have hcz19_1 : w13.cell? ⟨gb106, 1, none⟩ = some (.int .i64 0) := (Xe BK106.out 1).trans rfl; have hfz19_0 := Xd BK106.out 0; have hfz19_1 := Xd BK106.out 1))
 refine bodyPost_ret (results_cell_row rfl _ _ gb106 23 #[.int .i64 (wrap64 (t107 + a0_1)), .int .i64 (wrap64 (t108 + a0_2))] (0, 0) _ rfl (by (with_reducible repeat (first | refine Xf ?_ _ | refine Xh ?_ | refine Xg ?_ _)); refine blk_put (cs := #[.int .i64 (wrap64 (t107 + a0_1)), .int .i64 0]) ?_ 1 _ rfl; (with_reducible repeat (first | refine Xf ?_ _ | refine Xh ?_ | refine Xg ?_ _)); refine blk_put (cs := #[.int .i64 0, .int .i64 0]) ?_ 0 _ rfl; (with_reducible repeat (first | refine Xf ?_ _ | refine Xh ?_ | refine Xg ?_ _)); refine blk_far ?_ NB106_109.out _; (with_reducible repeat (first | refine Xf ?_ _ | refine Xh ?_ | refine Xg ?_ _)); refine blk_far ?_ NB106_109.out _; (with_reducible repeat (first | refine Xf ?_ _ | refine Xh ?_ | refine Xg ?_ _)); exact BK106.out) Try.underlying23 rfl (by kernel_rfl)) rfl ?_
 exact ⟨by first | rfl | (simp [errW_none, errW_some] <;> rfl) | (simp [*, errW_none, errW_some] <;> rfl), by repeat (first | (with_reducible first | exact HB.out | apply below_alloc | apply pw_below_drewN | apply below_drew1 | refine below_set ?_ GE104.out | refine below_set ?_ GE105.out | refine below_set ?_ GE106.out | refine below_set ?_ GE109.out) | exact HB.out)⟩

/-! ### turn_Then: function 98 -/
def turn_Then.f (a0 : Int) (a1 : Int) : Option (Int) := (turn_Mirrors.f a1).bind fun t110 => (if t110 = true then (some (Go.bits .or .i64 (Go.bits .and .i64 (wrap64 (a1 - a0)) 3) (Go.bits .and .i64 (Go.bits .xor .i64 a0 a1) 4))) else (some (Go.bits .or .i64 (Go.bits .and .i64 (wrap64 (a1 + a0)) 3) (Go.bits .and .i64 (Go.bits .xor .i64 a0 a1) 4))))
set_option maxHeartbeats 8000000 in
set_option maxRecDepth 100000 in
theorem turn_Then.calls (a0 : Int) (a1 : Int) (r : Int) (w : World) (h : turn_Then.f a0 a1 = some r) :
  Calls Try.prog 98 #[.int .i64 a0, .int .i64 a1] w fun e w' => e = .returned (.int .i64 r) ∧ Drawn0 w w' := by
 have H : ((turn_Mirrors.f a1).bind fun t110 => (if t110 = true then (some (Go.bits .or .i64 (Go.bits .and .i64 (wrap64 (a1 - a0)) 3) (Go.bits .and .i64 (Go.bits .xor .i64 a0 a1) 4))) else (some (Go.bits .or .i64 (Go.bits .and .i64 (wrap64 (a1 + a0)) 3) (Go.bits .and .i64 (Go.bits .xor .i64 a0 a1) 4))))) = some r := h
 clear h
 replace H := Option.bind_eq_some_iff.mp H
 obtain ⟨t110, A30, H⟩ := H
 replace H : (if t110 = true then (some (Go.bits .or .i64 (Go.bits .and .i64 (wrap64 (a1 - a0)) 3) (Go.bits .and .i64 (Go.bits .xor .i64 a0 a1) 4))) else (some (Go.bits .or .i64 (Go.bits .and .i64 (wrap64 (a1 + a0)) 3) (Go.bits .and .i64 (Go.bits .xor .i64 a0 a1) 4)))) = some r := H
 have A3 := Za A30
 clear A30
 by_cases c4 : t110 = true
 ·subst c4
  have H1 : (some (Go.bits .or .i64 (Go.bits .and .i64 (wrap64 (a1 - a0)) 3) (Go.bits .and .i64 (Go.bits .xor .i64 a0 a1) 4))) = some r := by rw [if_pos rfl] at H; exact H
  clear H
  have H := H1
  clear H1
  obtain rfl := Option.some.inj H
  go_enter Try.func98, Try.ntmps98
  go_wp2_with (first | ((with_reducible refine gate_callee (f := 84) rfl ?_); refine goesL_ (some 10) rfl rfl Try.func84 (by kernel_rfl) rfl #[.int .i64 a1] rfl (by (try simp only [List.map_toArray, List.map_cons, List.map_nil]); first | done | rfl | (simp only [List.length_drop, List.length_take]; rfl)) ?_; (with_reducible refine (turn_Mirrors.calls a1 true _ A3.out).mono ?_); rintro e w' ⟨rfl, ⟨nd, rfl⟩⟩; refine ⟨_, rfl, ?_⟩))
  go_ret
  exact ⟨by first | rfl | (simp; done) | (simp [*]; done), by repeat (first | exact Drawn0.refl _ | apply Drawn0.step)⟩
 ·replace c4 := Bool.eq_false_iff.mpr c4
  subst c4
  have H1 : (some (Go.bits .or .i64 (Go.bits .and .i64 (wrap64 (a1 + a0)) 3) (Go.bits .and .i64 (Go.bits .xor .i64 a0 a1) 4))) = some r := by rw [if_neg (show ¬ (Zf = true) by decide)] at H; exact H
  clear H
  have H := H1
  clear H1
  obtain rfl := Option.some.inj H
  go_enter Try.func98, Try.ntmps98
  go_wp2_with (first | ((with_reducible refine gate_callee (f := 84) rfl ?_); refine goesL_ (some 10) rfl rfl Try.func84 (by kernel_rfl) rfl #[.int .i64 a1] rfl (by (try simp only [List.map_toArray, List.map_cons, List.map_nil]); first | done | rfl | (simp only [List.length_drop, List.length_take]; rfl)) ?_; (with_reducible refine (turn_Mirrors.calls a1 Zf _ A3.out).mono ?_); rintro e w' ⟨rfl, ⟨nd, rfl⟩⟩; refine ⟨_, rfl, ?_⟩))
  go_ret
  exact ⟨by first | rfl | (simp; done) | (simp [*]; done), by repeat (first | exact Drawn0.refl _ | apply Drawn0.step)⟩

/-! ### place_Then: function 80 -/
def place_Then.f (k : Nat) (a0_0 : Int) (a0_1 : Int) (a0_2 : Int) (a1_0 : Int) (a1_1 : Int) (a1_2 : Int) : Option (Int × Int × Int) := (place_Do.f k a1_0 a1_1 a1_2 a0_1 a0_2).bind fun bt114 => ((turn_Then.f a0_0 a1_0).bind fun t117 => (some (t117, bt114.1, bt114.2)))
theorem place_Then.mono : ∀ a0 a1 a2 a3 a4 a5 k, LeO (place_Then.f k a0 a1 a2 a3 a4 a5) (place_Then.f (k + 1) a0 a1 a2 a3 a4 a5) := by
 intro a0 a1 a2 a3 a4 a5 k
 unfold place_Then.f
 repeat' first
   | (with_reducible exact place_Do.mono _ _ _ _ _ _)
   | (with_reducible exact LeO.refl _)
   | (with_reducible exact LeO.none _)
   | (with_reducible refine LeO.ite ?_ ?_)
   | (with_reducible refine LeO.bind ?_ (fun _ => ?_))
   | exact place_Do.mono _ _ _ _ _ _
   | exact LeO.none _
   | refine LeO.ite ?_ ?_
   | refine LeO.bind ?_ (fun _ => ?_)
def place_Then.T2 : Bool × List (List Nat × List Nat) := (true, [([], []), ([0], [0]), ([], []), ([2], [2]), ([1, 3], [1, 3]), ([], []), ([5], [5]), ([], []), ([7], [7]), ([4, 6, 8], [4, 6, 8]), ([9, 4, 0, 1, 2, 3, 4, 5, 6, 7, 8, 9], [9])])
def place_Then.B2 : List Nat := [0, 1, 0, 4, 15, 0, 32, 0, 128, 511, 1023]
theorem place_Then.tab2 : rtab .any (opsOf Try.f80 2) = place_Then.T2 := by kernel_rfl
theorem place_Then.bits2 : waitsOk place_Then.T2.2 place_Then.B2 = true := by kernel_rfl
set_option maxHeartbeats 8000000 in
set_option maxRecDepth 100000 in
theorem place_Then.calls (k : Nat) (a0_0 : Int) (a0_1 : Int) (a0_2 : Int) (a1_0 : Int) (a1_1 : Int) (a1_2 : Int) (r1 : Int) (r2 : Int) (r3 : Int) (w : World) (h : place_Then.f k a0_0 a0_1 a0_2 a1_0 a1_1 a1_2 = some (r1, r2, r3)) :
  Calls Try.prog 80 #[.agg #[.int .i64 a0_0, .int .i64 a0_1, .int .i64 a0_2], .agg #[.int .i64 a1_0, .int .i64 a1_1, .int .i64 a1_2]] w fun e w' => e = .returned (.agg #[.int .i64 r1, .int .i64 r2, .int .i64 r3]) ∧ Below w.heap.size w w' := by
 have hu32 := Try.underlying32
 have hu23 := Try.underlying23
 have HB := Za (Below.refl w.heap.size w)
 have H : ((place_Do.f k a1_0 a1_1 a1_2 a0_1 a0_2).bind fun bt114 => ((turn_Then.f a0_0 a1_0).bind fun t117 => (some (t117, bt114.1, bt114.2)))) = some (r1, r2, r3) := h
 clear h
 replace H := Option.bind_eq_some_iff.mp H
 obtain ⟨⟨t114, t115⟩, A30, H⟩ := H
 replace H : ((turn_Then.f a0_0 a1_0).bind fun t117 => (some (t117, t114, t115))) = some (r1, r2, r3) := H
 have A3 := Za A30
 clear A30
 replace H := Option.bind_eq_some_iff.mp H
 obtain ⟨t117, A40, H⟩ := H
 replace H : (some (t117, t114, t115)) = some (r1, r2, r3) := H
 have A4 := Za A40
 clear A40
 simp only [Option.some.injEq, Prod.mk.injEq] at H
 obtain ⟨rfl, rfl, rfl⟩ := H
 go_enter Try.func80, Try.ntmps80
 try go_wp2_with (first | ((with_reducible refine gate_dst (N := 2) rfl ?_); refine box_event ?hg (N := 2) ?hd (cs := #[.int .i64 a0_0, .int .i64 a0_1, .int .i64 a0_2]) (t := 32) ?hr ?_; (case hd => rfl); (case hg => rfl); (case hr => first | (go_simp; done) | (go_simp; rfl)); intro gb111 hg w5 hbox hb; have n0_ := Za (below_step (hb_4 HB.out) hb); have n1_ := Za (hbox); have n2_ := Za ((by rw [hg]; exact (Xi (hb_4 HB.out)) : w.heap.size ≤ gb111)); have n3_ := Za ((by rw [hg]; exact (Xi (hb_4 HB.out)) : w.heap.size ≤ gb111)); clear HB; have HB := n0_; have BK111 := n1_; have GW111 := n2_; have GE111 := n3_; clear n0_ n1_ n2_ n3_; clear hb hbox hg) | ((with_reducible refine gate_dst (N := 3) rfl ?_); refine box_event ?hg (N := 3) ?hd (cs := #[.int .i64 a1_0, .int .i64 a1_1, .int .i64 a1_2]) (t := 32) ?hr ?_; (case hd => rfl); (case hg => rfl); (case hr => first | (go_simp; done) | (go_simp; rfl)); intro gb112 hg w6 hbox hb; have n0_ := Za (blk_below (g := gb111) (o := .cells #[.int .i64 a0_0, .int .i64 a0_1, .int .i64 a0_2] 32 (0, 0)) (bb_4 BK111.out) hb); have n1_ := Za (below_step (hb_4 HB.out) hb); have n2_ := Za (hbox); have n3_ := Za ((by rw [hg]; exact (Xi (hb_4 HB.out)) : w.heap.size ≤ gb112)); have n4_ := Za ((by rw [hg]; exact (Xi (hb_4 HB.out)) : w.heap.size ≤ gb112)); have n5_ := Za ((by rw [hg]; exact Nat.ne_of_lt (blk_lt (g := gb111) (o := .cells #[.int .i64 a0_0, .int .i64 a0_1, .int .i64 a0_2] 32 (0, 0)) (bb_4 BK111.out)) : gb111 ≠ gb112)); have n6_ := Za ((by rw [hg]; exact Nat.ne_of_gt (blk_lt (g := gb111) (o := .cells #[.int .i64 a0_0, .int .i64 a0_1, .int .i64 a0_2] 32 (0, 0)) (bb_4 BK111.out)) : gb112 ≠ gb111)); clear BK111; clear HB; have BK111 := n0_; have HB := n1_; have BK112 := n2_; have GW112 := n3_; have GE112 := n4_; have NB111_112 := n5_; have NB112_111 := n6_; clear n0_ n1_ n2_ n3_ n4_ n5_ n6_; clear hb hbox hg) | ((with_reducible refine gate_dst (N := 4) rfl ?_); refine box_event ?hg (N := 4) ?hd (cs := #[.int .i64 0, .int .i64 0, .int .i64 0]) (t := 32) ?hr ?_; (case hd => rfl); (case hg => rfl); (case hr => first | (go_simp; done) | (go_simp; rfl)); intro gb113 hg w7 hbox hb; have n0_ := Za (blk_below (g := gb111) (o := .cells #[.int .i64 a0_0, .int .i64 a0_1, .int .i64 a0_2] 32 (0, 0)) (bb_4 BK111.out) hb); have n1_ := Za (blk_below (g := gb112) (o := .cells #[.int .i64 a1_0, .int .i64 a1_1, .int .i64 a1_2] 32 (0, 0)) (bb_4 BK112.out) hb); have n2_ := Za (below_step (hb_4 HB.out) hb); have n3_ := Za (hbox); have n4_ := Za ((by rw [hg]; exact (Xi (hb_4 HB.out)) : w.heap.size ≤ gb113)); have n5_ := Za ((by rw [hg]; exact (Xi (hb_4 HB.out)) : w.heap.size ≤ gb113)); have n6_ := Za ((by rw [hg]; exact Nat.ne_of_lt (blk_lt (g := gb111) (o := .cells #[.int .i64 a0_0, .int .i64 a0_1, .int .i64 a0_2] 32 (0, 0)) (bb_4 BK111.out)) : gb111 ≠ gb113)); have n7_ := Za ((by rw [hg]; exact Nat.ne_of_gt (blk_lt (g := gb111) (o := .cells #[.int .i64 a0_0, .int .i64 a0_1, .int .i64 a0_2] 32 (0, 0)) (bb_4 BK111.out)) : gb113 ≠ gb111)); have n8_ := Za ((by rw [hg]; exact Nat.ne_of_lt (blk_lt (g := gb112) (o := .cells #[.int .i64 a1_0, .int .i64 a1_1, .int .i64 a1_2] 32 (0, 0)) (bb_4 BK112.out)) : gb112 ≠ gb113)); have n9_ := Za ((by rw [hg]; exact Nat.ne_of_gt (blk_lt (g := gb112) (o := .cells #[.int .i64 a1_0, .int .i64 a1_1, .int .i64 a1_2] 32 (0, 0)) (bb_4 BK112.out)) : gb113 ≠ gb112)); clear BK111; clear BK112; clear HB; have BK111 := n0_; have BK112 := n1_; have HB := n2_; have BK113 := n3_; have GW113 := n4_; have GE113 := n5_; have NB111_113 := n6_; have NB113_111 := n7_; have NB112_113 := n8_; have NB113_112 := n9_; clear n0_ n1_ n2_ n3_ n4_ n5_ n6_ n7_ n8_ n9_; clear hb hbox hg; have hnb8 := NB112_111.out; have hnc8 := NB111_112.out; have hnb9 := NB112_113.out; have hnc9 := NB113_112.out; have hcz10_0 : w7.cell? ⟨gb112, 0, none⟩ = some (.int .i64 a1_0) := (Xe BK112.out 0).trans rfl; have hcz10_1 : w7.cell? ⟨gb112, 1, none⟩ = some (.int .i64 a1_1) := (Xe BK112.out 1).trans rfl; have hcz10_2 : w7.cell? ⟨gb112, 2, none⟩ = some (.int .i64 a1_2) := (Xe BK112.out 2).trans rfl; have hfz10_0 := Xd BK112.out 0; have hfz10_1 := Xd BK112.out 1; have hfz10_2 := Xd BK112.out 2; have hnb11 := NB111_113.out; have hnc11 := NB113_111.out; have hcz12_0 : w7.cell? ⟨gb111, 0, none⟩ = some (.int .i64 a0_0) := (Xe BK111.out 0).trans rfl; have hcz12_1 : w7.cell? ⟨gb111, 1, none⟩ = some (.int .i64 a0_1) := (Xe BK111.out 1).trans rfl; have hcz12_2 : w7.cell? ⟨gb111, 2, none⟩ = some (.int .i64 a0_2) := (Xe BK111.out 2).trans rfl; have hfz12_0 := Xd BK111.out 0; have hfz12_1 := Xd BK111.out 1; have hfz12_2 := Xd BK111.out 2) | ((with_reducible refine gate_callee (f := 97) rfl ?_); refine goesL_ (some 12) rfl rfl Try.func97 (by kernel_rfl) rfl #[.agg #[.int .i64 a1_0, .int .i64 a1_1, .int .i64 a1_2], .agg #[.int .i64 a0_1, .int .i64 a0_2]] rfl (by (try simp only [List.map_toArray, List.map_cons, List.map_nil]); first | done | rfl | (simp only [List.length_drop, List.length_take]; rfl)) ?_; (with_reducible refine (place_Do.calls k a1_0 a1_1 a1_2 a0_1 a0_2 t114 t115 _ A3.out).mono ?_); rintro e w13 ⟨rfl, hb⟩; refine ⟨_, rfl, ?_⟩; have n0_ := Za (blk_below (g := gb111) (o := .cells #[.int .i64 a0_0, .int .i64 a0_1, .int .i64 a0_2] 32 (0, 0)) (bb_4 BK111.out) hb); have n1_ := Za (blk_below (g := gb112) (o := .cells #[.int .i64 a1_0, .int .i64 a1_1, .int .i64 a1_2] 32 (0, 0)) (bb_4 BK112.out) hb); have n2_ := Za (blk_below (g := gb113) (o := .cells #[.int .i64 0, .int .i64 0, .int .i64 0] 32 (0, 0)) (bb_4 BK113.out) hb); have n3_ := Za (below_step (hb_4 HB.out) hb); clear BK111; clear BK112; clear BK113; clear HB; have BK111 := n0_; have BK112 := n1_; have BK113 := n2_; have HB := n3_; clear n0_ n1_ n2_ n3_; (try clear hb); (try clear hb2); (try clear hk); (try clear hi)) | ((with_reducible refine gate_dst (N := 5) rfl ?_); refine box_event ?hg (N := 5) ?hd (cs := #[.int .i64 0, .int .i64 0]) (t := 23) ?hr ?_; (case hd => rfl); (case hg => rfl); (case hr => first | (go_simp; done) | (go_simp; rfl)); intro gb116 hg w14 hbox hb; have n0_ := Za (blk_below (g := gb111) (o := .cells #[.int .i64 a0_0, .int .i64 a0_1, .int .i64 a0_2] 32 (0, 0)) (bb_4 BK111.out) hb); have n1_ := Za (blk_below (g := gb112) (o := .cells #[.int .i64 a1_0, .int .i64 a1_1, .int .i64 a1_2] 32 (0, 0)) (bb_4 BK112.out) hb); have n2_ := Za (blk_below (g := gb113) (o := .cells #[.int .i64 0, .int .i64 0, .int .i64 0] 32 (0, 0)) (bb_4 BK113.out) hb); have n3_ := Za (below_step (hb_4 HB.out) hb); have n4_ := Za (hbox); have n5_ := Za ((by rw [hg]; exact (Xi (hb_4 HB.out)) : w.heap.size ≤ gb116)); have n6_ := Za ((by rw [hg]; exact (Xi (hb_4 HB.out)) : w.heap.size ≤ gb116)); have n7_ := Za ((by rw [hg]; exact Nat.ne_of_lt (blk_lt (g := gb111) (o := .cells #[.int .i64 a0_0, .int .i64 a0_1, .int .i64 a0_2] 32 (0, 0)) (bb_4 BK111.out)) : gb111 ≠ gb116)); have n8_ := Za ((by rw [hg]; exact Nat.ne_of_gt (blk_lt (g := gb111) (o := .cells #[.int .i64 a0_0, .int .i64 a0_1, .int .i64 a0_2] 32 (0, 0)) (bb_4 BK111.out)) : gb116 ≠ gb111)); have n9_ := Za ((by rw [hg]; exact Nat.ne_of_lt (blk_lt (g := gb112) (o := .cells #[.int .i64 a1_0, .int .i64 a1_1, .int .i64 a1_2] 32 (0, 0)) (bb_4 BK112.out)) : gb112 ≠ gb116)); have n10_ := Za ((by rw [hg]; exact Nat.ne_of_gt (blk_lt (g := gb112) (o := .cells #[.int .i64 a1_0, .int .i64 a1_1, .int .i64 a1_2] 32 (0, 0)) (bb_4 BK112.out)) : gb116 ≠ gb112)); have n11_ := Za ((by rw [hg]; exact Nat.ne_of_lt (blk_lt (g := gb113) (o := .cells #[.int .i64 0, .int .i64 0, .int .i64 0] 32 (0, 0)) (bb_4 BK113.out)) : gb113 ≠ gb116)); have n12_ := Za ((by rw [hg]; exact Nat.ne_of_gt (blk_lt (g := gb113) (o := .cells #[.int .i64 0, .int .i64 0, .int .i64 0] 32 (0, 0)) (bb_4 BK113.out)) : gb116 ≠ gb113)); clear BK111; clear BK112; clear BK113; clear HB; have BK111 := n0_; have BK112 := n1_; have BK113 := n2_; have HB := n3_; have BK116 := n4_; have GW116 := n5_; have GE116 := n6_; have NB111_116 := n7_; have NB116_111 := n8_; have NB112_116 := n9_; have NB116_112 := n10_; have NB113_116 := n11_; have NB116_113 := n12_; clear n0_ n1_ n2_ n3_ n4_ n5_ n6_ n7_ n8_ n9_ n10_ n11_ n12_; clear hb hbox hg; have hnb15 := NB116_111.out; have hnc15 := NB111_116.out; have hnb16 := NB116_112.out; have hnc16 := NB112_116.out; have hnb17 := NB116_113.out; have hnc17 := NB113_116.out; have hcz18_0 : w14.cell? ⟨gb116, 0, none⟩ = some (.int .i64 0) := (Xe BK116.out 0).trans rfl; have hcz18_1 : w14.cell? ⟨gb116, 1, none⟩ = some (.int .i64 0) := (Xe BK116.out 1).trans rfl; have hfz18_0 := Xd BK116.out 0; have hfz18_1 := Xd BK116.out 1))
 have n0_ : Aside0 (((w14.setCell ⟨gb116, 0, none⟩ (.int .i64 t114)).setCell ⟨gb116, 1, none⟩ (.int .i64 t115)).heap[gb111]? = some (.cells #[.int .i64 a0_0, .int .i64 a0_1, .int .i64 a0_2] 32 (0, 0))) := ⟨by (with_reducible repeat (first | refine Xf ?_ _ | refine Xh ?_ | refine Xg ?_ _)); refine blk_far ?_ NB111_116.out _; (with_reducible repeat (first | refine Xf ?_ _ | refine Xh ?_ | refine Xg ?_ _)); refine blk_far ?_ NB111_116.out _; (with_reducible repeat (first | refine Xf ?_ _ | refine Xh ?_ | refine Xg ?_ _)); exact BK111.out⟩
 have n1_ : Aside0 (((w14.setCell ⟨gb116, 0, none⟩ (.int .i64 t114)).setCell ⟨gb116, 1, none⟩ (.int .i64 t115)).heap[gb112]? = some (.cells #[.int .i64 a1_0, .int .i64 a1_1, .int .i64 a1_2] 32 (0, 0))) := ⟨by (with_reducible repeat (first | refine Xf ?_ _ | refine Xh ?_ | refine Xg ?_ _)); refine blk_far ?_ NB112_116.out _; (with_reducible repeat (first | refine Xf ?_ _ | refine Xh ?_ | refine Xg ?_ _)); refine blk_far ?_ NB112_116.out _; (with_reducible repeat (first | refine Xf ?_ _ | refine Xh ?_ | refine Xg ?_ _)); exact BK112.out⟩
 have n2_ : Aside0 (((w14.setCell ⟨gb116, 0, none⟩ (.int .i64 t114)).setCell ⟨gb116, 1, none⟩ (.int .i64 t115)).heap[gb113]? = some (.cells #[.int .i64 0, .int .i64 0, .int .i64 0] 32 (0, 0))) := ⟨by (with_reducible repeat (first | refine Xf ?_ _ | refine Xh ?_ | refine Xg ?_ _)); refine blk_far ?_ NB113_116.out _; (with_reducible repeat (first | refine Xf ?_ _ | refine Xh ?_ | refine Xg ?_ _)); refine blk_far ?_ NB113_116.out _; (with_reducible repeat (first | refine Xf ?_ _ | refine Xh ?_ | refine Xg ?_ _)); exact BK113.out⟩
 have n3_ : Aside0 (((w14.setCell ⟨gb116, 0, none⟩ (.int .i64 t114)).setCell ⟨gb116, 1, none⟩ (.int .i64 t115)).heap[gb116]? = some (.cells #[.int .i64 t114, .int .i64 t115] 23 (0, 0))) := ⟨by (with_reducible repeat (first | refine Xf ?_ _ | refine Xh ?_ | refine Xg ?_ _)); refine blk_put (cs := #[.int .i64 t114, .int .i64 0]) ?_ 1 _ rfl; (with_reducible repeat (first | refine Xf ?_ _ | refine Xh ?_ | refine Xg ?_ _)); refine blk_put (cs := #[.int .i64 0, .int .i64 0]) ?_ 0 _ rfl; (with_reducible repeat (first | refine Xf ?_ _ | refine Xh ?_ | refine Xg ?_ _)); exact BK116.out⟩
 have n4_ : Aside0 (Below w.heap.size w ((w14.setCell ⟨gb116, 0, none⟩ (.int .i64 t114)).setCell ⟨gb116, 1, none⟩ (.int .i64 t115))) := ⟨by repeat (first | (with_reducible first | exact HB.out | apply below_alloc | apply pw_below_drewN | apply below_drew1 | refine below_set ?_ GE111.out | refine below_set ?_ GE112.out | refine below_set ?_ GE113.out | refine below_set ?_ GE116.out) | exact HB.out)⟩
 (try clear BK111)
 (try clear BK112)
 (try clear BK113)
 (try clear BK116)
 (try clear HB)
 generalize ((w14.setCell ⟨gb116, 0, none⟩ (.int .i64 t114)).setCell ⟨gb116, 1, none⟩ (.int .i64 t115)) = w19 at n0_ n1_ n2_ n3_ n4_ ⊢
 have BK111 := n0_
 have BK112 := n1_
 have BK113 := n2_
 have BK116 := n3_
 have HB := n4_
 clear n0_ n1_ n2_ n3_ n4_
 have n0_ := Za (Xh BK111.out)
 have n1_ := Za (Xh BK112.out)
 have n2_ := Za (Xh BK113.out)
 have n3_ := Za (Xh BK116.out)
 have n4_ := Za (below_drew1 HB.out)
 clear BK111
 clear BK112
 clear BK113
 clear BK116
 clear HB
 have BK111 := n0_
 have BK112 := n1_
 have BK113 := n2_
 have BK116 := n3_
 have HB := n4_
 clear n0_ n1_ n2_ n3_ n4_
 refine start_ (n := 11) (S := fun w' => w'.cell? ⟨gb111, 0, none⟩ = some (.int .i64 a0_0) ∧ w'.cell? ⟨gb111, 1, none⟩ = some (.int .i64 a0_1) ∧ w'.cell? ⟨gb111, 2, none⟩ = some (.int .i64 a0_2) ∧ w'.cell? ⟨gb112, 0, none⟩ = some (.int .i64 a1_0) ∧ w'.cell? ⟨gb112, 1, none⟩ = some (.int .i64 a1_1) ∧ w'.cell? ⟨gb112, 2, none⟩ = some (.int .i64 a1_2) ∧ w'.cell? ⟨gb116, 0, none⟩ = some (.int .i64 t114) ∧ w'.cell? ⟨gb116, 1, none⟩ = some (.int .i64 t115)) (ds := []) #[Zf,Zf,Zf,Zf,Zf,Zf,Zf,Zf,Zf,Zf,Zf] (by kernel_rfl) rfl rfl ⟨(Xe BK111.out 0).trans rfl, (Xe BK111.out 1).trans rfl, (Xe BK111.out 2).trans rfl, (Xe BK112.out 0).trans rfl, (Xe BK112.out 1).trans rfl, (Xe BK112.out 2).trans rfl, (Xe BK116.out 0).trans rfl, (Xe BK116.out 1).trans rfl⟩ (fun hHeld => ?_); refine with_tabW place_Then.tab2 place_Then.bits2 (fun HT_ HW_ => ?_)
 generalize w19.drew = w20 at BK111 BK112 BK113 BK116 HB hHeld ⊢
 refine pure_ (i := 0) (N := some 13) (v := ?_) (a' := ?_) #[true,Zf,Zf,Zf,Zf,Zf,Zf,Zf,Zf,Zf,Zf] rfl rfl (any_of HT_.out (by kernel_rfl)) (fun _ _ _ h => h) (Or.inl ⟨by rfl, ?_⟩) ?_ ?_
 rotate_left
 ·intro w'
  go_simp
  with_reducible rfl
 rotate_left
 ·simp only [Act.put, Xa, List.set_cons_zero, List.set_cons_succ, i64_w, i32_w]
  rfl
 refine pure_ (i := 2) (N := some 15) (v := ?_) (a' := ?_) #[true,Zf,true,Zf,Zf,Zf,Zf,Zf,Zf,Zf,Zf] rfl rfl (any_of HT_.out (by kernel_rfl)) (fun _ _ _ h => h) (Or.inl ⟨by rfl, ?_⟩) ?_ ?_
 rotate_left
 ·intro w'
  go_simp
  with_reducible rfl
 rotate_left
 ·simp only [Act.put, Xa, List.set_cons_zero, List.set_cons_succ, i64_w, i32_w]
  rfl
 refine pure_ (i := 5) (N := some 18) (v := ?_) (a' := ?_) #[true,Zf,true,Zf,Zf,true,Zf,Zf,Zf,Zf,Zf] rfl rfl (any_of HT_.out (by kernel_rfl)) (fun _ _ _ h => h) (Or.inl ⟨by rfl, ?_⟩) ?_ ?_
 rotate_left
 ·intro w'
  go_simp
  with_reducible rfl
 rotate_left
 ·simp only [Act.put, Xa, List.set_cons_zero, List.set_cons_succ, i64_w, i32_w]
  rfl
 refine pure_ (i := 7) (N := some 20) (v := ?_) (a' := ?_) #[true,Zf,true,Zf,Zf,true,Zf,true,Zf,Zf,Zf] rfl rfl (any_of HT_.out (by kernel_rfl)) (fun _ _ _ h => h) (Or.inl ⟨by rfl, ?_⟩) ?_ ?_
 rotate_left
 ·intro w'
  go_simp
  with_reducible rfl
 rotate_left
 ·simp only [Act.put, Xa, List.set_cons_zero, List.set_cons_succ, i64_w, i32_w]
  rfl
 refine take_ (i := 1) (N := some 14) (v := ?_) (a' := ?_) #[true,true,true,Zf,Zf,true,Zf,true,Zf,Zf,Zf] rfl rfl (take_ofW HT_.out HW_.out (by kernel_rfl)) (fun _ _ _ h => h) (Or.inl ⟨by rfl, ?_⟩) hHeld ?_ ?_
 rotate_left
 ·rintro w' ⟨s0, s1, s2, s3, s4, s5, s6, s7⟩
  go_simp
  with_reducible rfl
 rotate_left
 ·simp only [Act.put, Xa, List.set_cons_zero, List.set_cons_succ, i64_w, i32_w]
  rfl
 refine take_ (i := 3) (N := some 16) (v := ?_) (a' := ?_) #[true,true,true,true,Zf,true,Zf,true,Zf,Zf,Zf] rfl rfl (take_ofW HT_.out HW_.out (by kernel_rfl)) (fun _ _ _ h => h) (Or.inl ⟨by rfl, ?_⟩) hHeld ?_ ?_
 rotate_left
 ·rintro w' ⟨s0, s1, s2, s3, s4, s5, s6, s7⟩
  go_simp
  with_reducible rfl
 rotate_left
 ·simp only [Act.put, Xa, List.set_cons_zero, List.set_cons_succ, i64_w, i32_w]
  rfl
 refine take_ (i := 6) (N := some 19) (v := ?_) (a' := ?_) #[true,true,true,true,Zf,true,true,true,Zf,Zf,Zf] rfl rfl (take_ofW HT_.out HW_.out (by kernel_rfl)) (fun _ _ _ h => h) (Or.inl ⟨by rfl, ?_⟩) hHeld ?_ ?_
 rotate_left
 ·rintro w' ⟨s0, s1, s2, s3, s4, s5, s6, s7⟩
  go_simp
  with_reducible rfl
 rotate_left
 ·simp only [Act.put, Xa, List.set_cons_zero, List.set_cons_succ, i64_w, i32_w]
  rfl
 refine take_ (i := 8) (N := some 21) (v := ?_) (a' := ?_) #[true,true,true,true,Zf,true,true,true,true,Zf,Zf] rfl rfl (take_ofW HT_.out HW_.out (by kernel_rfl)) (fun _ _ _ h => h) (Or.inl ⟨by rfl, ?_⟩) hHeld ?_ ?_
 rotate_left
 ·rintro w' ⟨s0, s1, s2, s3, s4, s5, s6, s7⟩
  go_simp
  with_reducible rfl
 rotate_left
 ·simp only [Act.put, Xa, List.set_cons_zero, List.set_cons_succ, i64_w, i32_w]
  rfl
 refine one_ (i := 4) (N := some 17) #[true,true,true,true,true,true,true,true,true,Zf,Zf] rfl rfl (one_of HT_.out (by kernel_rfl)) (by decide) (fun K hK => ?_)
 refine goes_ Try.func98 (by kernel_rfl) rfl #[.int .i64 a0_0, .int .i64 a1_0] (by rfl) rfl rfl (by (try simp only [List.map_toArray, List.map_cons, List.map_nil]); first | done | rfl | (simp only [List.length_drop, List.length_take]; rfl)) ?_
 with_reducible refine (turn_Then.calls a0_0 a1_0 t117 _ A4.out).mono ?_
 rintro e w' ⟨rfl, ⟨nd, rfl⟩⟩
 refine ⟨_, rfl, ?_⟩
 refine hK.out _ _ ⟨(Xe BK111.out 0).trans rfl, (Xe BK111.out 1).trans rfl, (Xe BK111.out 2).trans rfl, (Xe BK112.out 0).trans rfl, (Xe BK112.out 1).trans rfl, (Xe BK112.out 2).trans rfl, (Xe BK116.out 0).trans rfl, (Xe BK116.out 1).trans rfl⟩ (fun hHeld => ?_)
 clear hK K
 refine norm_ (a' := ?_) ?_ ?_
 rotate_left
 ·show Act.put _ (some 17) _ = _
  simp only [Act.put, Xa, List.set_cons_zero, List.set_cons_succ, i64_w, i32_w]
  rfl
 refine pure_ (i := 9) (N := some 22) (v := ?_) (a' := ?_) #[true,true,true,true,true,true,true,true,true,true,Zf] rfl rfl (any_of HT_.out (by kernel_rfl)) (fun _ _ _ h => h) (Or.inl ⟨by rfl, ?_⟩) ?_ ?_
 rotate_left
 ·intro w'
  go_simp
  with_reducible rfl
 rotate_left
 ·simp only [Act.put, Xa, List.set_cons_zero, List.set_cons_succ, i64_w, i32_w]
  rfl
 refine one_ (i := 10) (N := none) #[true,true,true,true,true,true,true,true,true,true,true] rfl rfl (one_of HT_.out (by kernel_rfl)) (by decide) (fun K hK => ?_)
 have hs21 : w20.cell? ⟨gb113, 0, none⟩ = some (.int .i64 0) := (Xe BK113.out 0).trans rfl
 have hfs21 := Xd BK113.out 0
 have hns21_0 := NB111_113.out
 have hns21_1 := NB112_113.out
 have hns21_3 := NB116_113.out
 have hms21_0 := NB113_111.out
 have hms21_1 := NB113_112.out
 have hms21_3 := NB113_116.out
 have hs22 : w20.cell? ⟨gb113, 1, none⟩ = some (.int .i64 0) := (Xe BK113.out 1).trans rfl
 have hfs22 := Xd BK113.out 1
 have hns22_0 := NB111_113.out
 have hns22_1 := NB112_113.out
 have hns22_3 := NB116_113.out
 have hms22_0 := NB113_111.out
 have hms22_1 := NB113_112.out
 have hms22_3 := NB113_116.out
 have hs23 : w20.cell? ⟨gb113, 2, none⟩ = some (.int .i64 0) := (Xe BK113.out 2).trans rfl
 have hfs23 := Xd BK113.out 2
 have hns23_0 := NB111_113.out
 have hns23_1 := NB112_113.out
 have hns23_3 := NB116_113.out
 have hms23_0 := NB113_111.out
 have hms23_1 := NB113_112.out
 have hms23_3 := NB113_116.out
 refine skip_ (w1 := ?_) (by rfl) rfl ?_ ?_
 rotate_left
 ·go_simp
  rfl
 refine hK.out _ _ ⟨((cell_far (p := ⟨gb113, _, none⟩) NB111_113.out _).trans (((cell_far (p := ⟨gb113, _, none⟩) NB111_113.out _).trans (((cell_far (p := ⟨gb113, _, none⟩) NB111_113.out _).trans (hHeld.1)))))), ((cell_far (p := ⟨gb113, _, none⟩) NB111_113.out _).trans (((cell_far (p := ⟨gb113, _, none⟩) NB111_113.out _).trans (((cell_far (p := ⟨gb113, _, none⟩) NB111_113.out _).trans (hHeld.2.1)))))), ((cell_far (p := ⟨gb113, _, none⟩) NB111_113.out _).trans (((cell_far (p := ⟨gb113, _, none⟩) NB111_113.out _).trans (((cell_far (p := ⟨gb113, _, none⟩) NB111_113.out _).trans (hHeld.2.2.1)))))), ((cell_far (p := ⟨gb113, _, none⟩) NB112_113.out _).trans (((cell_far (p := ⟨gb113, _, none⟩) NB112_113.out _).trans (((cell_far (p := ⟨gb113, _, none⟩) NB112_113.out _).trans (hHeld.2.2.2.1)))))), ((cell_far (p := ⟨gb113, _, none⟩) NB112_113.out _).trans (((cell_far (p := ⟨gb113, _, none⟩) NB112_113.out _).trans (((cell_far (p := ⟨gb113, _, none⟩) NB112_113.out _).trans (hHeld.2.2.2.2.1)))))), ((cell_far (p := ⟨gb113, _, none⟩) NB112_113.out _).trans (((cell_far (p := ⟨gb113, _, none⟩) NB112_113.out _).trans (((cell_far (p := ⟨gb113, _, none⟩) NB112_113.out _).trans (hHeld.2.2.2.2.2.1)))))), ((cell_far (p := ⟨gb113, _, none⟩) NB116_113.out _).trans (((cell_far (p := ⟨gb113, _, none⟩) NB116_113.out _).trans (((cell_far (p := ⟨gb113, _, none⟩) NB116_113.out _).trans (hHeld.2.2.2.2.2.2.1)))))), ((cell_far (p := ⟨gb113, _, none⟩) NB116_113.out _).trans (((cell_far (p := ⟨gb113, _, none⟩) NB116_113.out _).trans (((cell_far (p := ⟨gb113, _, none⟩) NB116_113.out _).trans (hHeld.2.2.2.2.2.2.2))))))⟩ (fun hHeld => ?_)
 clear hK K
 refine done_ (done_of HT_.out (by kernel_rfl)) ?_
 try go_wp2
 refine bodyPost_ret (results_cell_row rfl _ _ gb113 32 #[.int .i64 t117, .int .i64 t114, .int .i64 t115] (0, 0) _ rfl (by (with_reducible repeat (first | refine Xf ?_ _ | refine Xh ?_ | refine Xg ?_ _)); refine blk_put (cs := #[.int .i64 t117, .int .i64 t114, .int .i64 0]) ?_ 2 _ rfl; (with_reducible repeat (first | refine Xf ?_ _ | refine Xh ?_ | refine Xg ?_ _)); refine blk_put (cs := #[.int .i64 t117, .int .i64 0, .int .i64 0]) ?_ 1 _ rfl; (with_reducible repeat (first | refine Xf ?_ _ | refine Xh ?_ | refine Xg ?_ _)); refine blk_put (cs := #[.int .i64 0, .int .i64 0, .int .i64 0]) ?_ 0 _ rfl; (with_reducible repeat (first | refine Xf ?_ _ | refine Xh ?_ | refine Xg ?_ _)); exact BK113.out) Try.underlying32 rfl (by kernel_rfl)) rfl ?_
 exact ⟨by first | rfl | (simp [errW_none, errW_some] <;> rfl) | (simp [*, errW_none, errW_some] <;> rfl), by repeat (first | (with_reducible first | exact HB.out | apply below_alloc | apply pw_below_drewN | apply below_drew1 | refine below_set ?_ GE111.out | refine below_set ?_ GE112.out | refine below_set ?_ GE113.out | refine below_set ?_ GE116.out) | exact HB.out)⟩

/-! ### layer_Lay: function 37 -/
def layer_Lay.f (k : Nat) (a0_0 : Int) (a0_1 : Int) (a0_2 : Int) (a0_3 : Int) (a0_4 : Int) (a0_5 : Int) (a0_6 : Int) (a1_0 : Int) (a1_1 : Int) (a1_2 : Int) : Option (Int × Int × Int × Int × Int × Int × Int) := (place_Then.f k a0_4 a0_5 a0_6 a1_0 a1_1 a1_2).bind fun bt121 => (some (a0_0, a0_1, a0_2, a0_3, bt121.1, bt121.2.1, bt121.2.2))
theorem layer_Lay.mono : ∀ a0 a1 a2 a3 a4 a5 a6 a7 a8 a9 k, LeO (layer_Lay.f k a0 a1 a2 a3 a4 a5 a6 a7 a8 a9) (layer_Lay.f (k + 1) a0 a1 a2 a3 a4 a5 a6 a7 a8 a9) := by
 intro a0 a1 a2 a3 a4 a5 a6 a7 a8 a9 k
 unfold layer_Lay.f
 repeat' first
   | (with_reducible exact place_Then.mono _ _ _ _ _ _ _)
   | (with_reducible exact LeO.refl _)
   | (with_reducible exact LeO.none _)
   | (with_reducible refine LeO.ite ?_ ?_)
   | (with_reducible refine LeO.bind ?_ (fun _ => ?_))
   | exact place_Then.mono _ _ _ _ _ _ _
   | exact LeO.none _
   | refine LeO.ite ?_ ?_
   | refine LeO.bind ?_ (fun _ => ?_)
set_option maxHeartbeats 8000000 in
set_option maxRecDepth 100000 in
theorem layer_Lay.calls (k : Nat) (a0_0 : Int) (a0_1 : Int) (a0_2 : Int) (a0_3 : Int) (a0_4 : Int) (a0_5 : Int) (a0_6 : Int) (a1_0 : Int) (a1_1 : Int) (a1_2 : Int) (r1 : Int) (r2 : Int) (r3 : Int) (r4 : Int) (r5 : Int) (r6 : Int) (r7 : Int) (w : World) (h : layer_Lay.f k a0_0 a0_1 a0_2 a0_3 a0_4 a0_5 a0_6 a1_0 a1_1 a1_2 = some (r1, r2, r3, r4, r5, r6, r7)) :
  Calls Try.prog 37 #[.agg #[.int .i64 a0_0, .int .i64 a0_1, .int .i64 a0_2, .int .i64 a0_3, .int .i64 a0_4, .int .i64 a0_5, .int .i64 a0_6], .agg #[.int .i64 a1_0, .int .i64 a1_1, .int .i64 a1_2]] w fun e w' => e = .returned (.agg #[.int .i64 r1, .int .i64 r2, .int .i64 r3, .int .i64 r4, .int .i64 r5, .int .i64 r6, .int .i64 r7]) ∧ Below w.heap.size w w' := by
 have hu55 := Try.underlying55
 have hu32 := Try.underlying32
 have HB := Za (Below.refl w.heap.size w)
 have H : ((place_Then.f k a0_4 a0_5 a0_6 a1_0 a1_1 a1_2).bind fun bt121 => (some (a0_0, a0_1, a0_2, a0_3, bt121.1, bt121.2.1, bt121.2.2))) = some (r1, r2, r3, r4, r5, r6, r7) := h
 clear h
 replace H := Option.bind_eq_some_iff.mp H
 obtain ⟨⟨t121, t122, t123⟩, A30, H⟩ := H
 replace H : (some (a0_0, a0_1, a0_2, a0_3, t121, t122, t123)) = some (r1, r2, r3, r4, r5, r6, r7) := H
 have A3 := Za A30
 clear A30
 simp only [Option.some.injEq, Prod.mk.injEq] at H
 obtain ⟨rfl, rfl, rfl, rfl, rfl, rfl, rfl⟩ := H
 go_enter Try.func37, Try.ntmps37
 go_wp2_with (first | ((with_reducible refine gate_dst (N := 2) rfl ?_); refine box_event ?hg (N := 2) ?hd (cs := #[.int .i64 a0_0, .int .i64 a0_1, .int .i64 a0_2, .int .i64 a0_3, .int .i64 a0_4, .int .i64 a0_5, .int .i64 a0_6]) (t := 55) ?hr ?_; (case hd => rfl); (case hg => rfl); (case hr => first | (go_simp; done) | (go_simp; rfl)); intro gb118 hg w4 hbox hb; have n0_ := Za (below_step (hb_4 HB.out) hb); have n1_ := Za (hbox); have n2_ := Za ((by rw [hg]; exact (Xi (hb_4 HB.out)) : w.heap.size ≤ gb118)); have n3_ := Za ((by rw [hg]; exact (Xi (hb_4 HB.out)) : w.heap.size ≤ gb118)); clear HB; have HB := n0_; have BK118 := n1_; have GW118 := n2_; have GE118 := n3_; clear n0_ n1_ n2_ n3_; clear hb hbox hg) | ((with_reducible refine gate_dst (N := 3) rfl ?_); refine box_event ?hg (N := 3) ?hd (cs := #[.int .i64 a1_0, .int .i64 a1_1, .int .i64 a1_2]) (t := 32) ?hr ?_; (case hd => rfl); (case hg => rfl); (case hr => first | (go_simp; done) | (go_simp; rfl)); intro gb119 hg w5 hbox hb; have n0_ := Za (blk_below (g := gb118) (o := .cells #[.int .i64 a0_0, .int .i64 a0_1, .int .i64 a0_2, .int .i64 a0_3, .int .i64 a0_4, .int .i64 a0_5, .int .i64 a0_6] 55 (0, 0)) (bb_4 BK118.out) hb); have n1_ := Za (below_step (hb_4 HB.out) hb); have n2_ := Za (hbox); have n3_ := Za ((by rw [hg]; exact (Xi (hb_4 HB.out)) : w.heap.size ≤ gb119)); have n4_ := Za ((by rw [hg]; exact (Xi (hb_4 HB.out)) : w.heap.size ≤ gb119)); have n5_ := Za ((by rw [hg]; exact Nat.ne_of_lt (blk_lt (g := gb118) (o := .cells #[.int .i64 a0_0, .int .i64 a0_1, .int .i64 a0_2, .int .i64 a0_3, .int .i64 a0_4, .int .i64 a0_5, .int .i64 a0_6] 55 (0, 0)) (bb_4 BK118.out)) : gb118 ≠ gb119)); have n6_ := Za ((by rw [hg]; exact Nat.ne_of_gt (blk_lt (g := gb118) (o := .cells #[.int .i64 a0_0, .int .i64 a0_1, .int .i64 a0_2, .int .i64 a0_3, .int .i64 a0_4, .int .i64 a0_5, .int .i64 a0_6] 55 (0, 0)) (bb_4 BK118.out)) : gb119 ≠ gb118)); clear BK118; clear HB; have BK118 := n0_; have HB := n1_; have BK119 := n2_; have GW119 := n3_; have GE119 := n4_; have NB118_119 := n5_; have NB119_118 := n6_; clear n0_ n1_ n2_ n3_ n4_ n5_ n6_; clear hb hbox hg) | ((with_reducible refine gate_dst (N := 4) rfl ?_); refine box_event ?hg (N := 4) ?hd (cs := #[.int .i64 0, .int .i64 0, .int .i64 0, .int .i64 0, .int .i64 0, .int .i64 0, .int .i64 0]) (t := 55) ?hr ?_; (case hd => rfl); (case hg => rfl); (case hr => first | (go_simp; done) | (go_simp; rfl)); intro gb120 hg w6 hbox hb; have n0_ := Za (blk_below (g := gb118) (o := .cells #[.int .i64 a0_0, .int .i64 a0_1, .int .i64 a0_2, .int .i64 a0_3, .int .i64 a0_4, .int .i64 a0_5, .int .i64 a0_6] 55 (0, 0)) (bb_4 BK118.out) hb); have n1_ := Za (blk_below (g := gb119) (o := .cells #[.int .i64 a1_0, .int .i64 a1_1, .int .i64 a1_2] 32 (0, 0)) (bb_4 BK119.out) hb); have n2_ := Za (below_step (hb_4 HB.out) hb); have n3_ := Za (hbox); have n4_ := Za ((by rw [hg]; exact (Xi (hb_4 HB.out)) : w.heap.size ≤ gb120)); have n5_ := Za ((by rw [hg]; exact (Xi (hb_4 HB.out)) : w.heap.size ≤ gb120)); have n6_ := Za ((by rw [hg]; exact Nat.ne_of_lt (blk_lt (g := gb118) (o := .cells #[.int .i64 a0_0, .int .i64 a0_1, .int .i64 a0_2, .int .i64 a0_3, .int .i64 a0_4, .int .i64 a0_5, .int .i64 a0_6] 55 (0, 0)) (bb_4 BK118.out)) : gb118 ≠ gb120)); have n7_ := Za ((by rw [hg]; exact Nat.ne_of_gt (blk_lt (g := gb118) (o := .cells #[.int .i64 a0_0, .int .i64 a0_1, .int .i64 a0_2, .int .i64 a0_3, .int .i64 a0_4, .int .i64 a0_5, .int .i64 a0_6] 55 (0, 0)) (bb_4 BK118.out)) : gb120 ≠ gb118)); have n8_ := Za ((by rw [hg]; exact Nat.ne_of_lt (blk_lt (g := gb119) (o := .cells #[.int .i64 a1_0, .int .i64 a1_1, .int .i64 a1_2] 32 (0, 0)) (bb_4 BK119.out)) : gb119 ≠ gb120)); have n9_ := Za ((by rw [hg]; exact Nat.ne_of_gt (blk_lt (g := gb119) (o := .cells #[.int .i64 a1_0, .int .i64 a1_1, .int .i64 a1_2] 32 (0, 0)) (bb_4 BK119.out)) : gb120 ≠ gb119)); clear BK118; clear BK119; clear HB; have BK118 := n0_; have BK119 := n1_; have HB := n2_; have BK120 := n3_; have GW120 := n4_; have GE120 := n5_; have NB118_120 := n6_; have NB120_118 := n7_; have NB119_120 := n8_; have NB120_119 := n9_; clear n0_ n1_ n2_ n3_ n4_ n5_ n6_ n7_ n8_ n9_; clear hb hbox hg; have hnb7 := NB118_119.out; have hnc7 := NB119_118.out; have hnb8 := NB118_120.out; have hnc8 := NB120_118.out; have hcz9_0 : w6.cell? ⟨gb118, 0, none⟩ = some (.int .i64 a0_0) := (Xe BK118.out 0).trans rfl; have hcz9_1 : w6.cell? ⟨gb118, 1, none⟩ = some (.int .i64 a0_1) := (Xe BK118.out 1).trans rfl; have hcz9_2 : w6.cell? ⟨gb118, 2, none⟩ = some (.int .i64 a0_2) := (Xe BK118.out 2).trans rfl; have hcz9_3 : w6.cell? ⟨gb118, 3, none⟩ = some (.int .i64 a0_3) := (Xe BK118.out 3).trans rfl; have hcz9_4 : w6.cell? ⟨gb118, 4, none⟩ = some (.int .i64 a0_4) := (Xe BK118.out 4).trans rfl; have hcz9_5 : w6.cell? ⟨gb118, 5, none⟩ = some (.int .i64 a0_5) := (Xe BK118.out 5).trans rfl; have hcz9_6 : w6.cell? ⟨gb118, 6, none⟩ = some (.int .i64 a0_6) := (Xe BK118.out 6).trans rfl; have hfz9_0 := Xd BK118.out 0; have hfz9_1 := Xd BK118.out 1; have hfz9_2 := Xd BK118.out 2; have hfz9_3 := Xd BK118.out 3; have hfz9_4 := Xd BK118.out 4; have hfz9_5 := Xd BK118.out 5; have hfz9_6 := Xd BK118.out 6; have hnb10 := NB119_120.out; have hnc10 := NB120_119.out; have hcz11_0 : w6.cell? ⟨gb119, 0, none⟩ = some (.int .i64 a1_0) := (Xe BK119.out 0).trans rfl; have hcz11_1 : w6.cell? ⟨gb119, 1, none⟩ = some (.int .i64 a1_1) := (Xe BK119.out 1).trans rfl; have hcz11_2 : w6.cell? ⟨gb119, 2, none⟩ = some (.int .i64 a1_2) := (Xe BK119.out 2).trans rfl; have hfz11_0 := Xd BK119.out 0; have hfz11_1 := Xd BK119.out 1; have hfz11_2 := Xd BK119.out 2) | ((with_reducible refine gate_callee (f := 80) rfl ?_); refine goesL_ (some 8) rfl rfl Try.func80 (by kernel_rfl) rfl #[.agg #[.int .i64 a0_4, .int .i64 a0_5, .int .i64 a0_6], .agg #[.int .i64 a1_0, .int .i64 a1_1, .int .i64 a1_2]] rfl (by (try simp only [List.map_toArray, List.map_cons, List.map_nil]); first | done | rfl | (simp only [List.length_drop, List.length_take]; rfl)) ?_; (with_reducible refine (place_Then.calls k a0_4 a0_5 a0_6 a1_0 a1_1 a1_2 t121 t122 t123 _ A3.out).mono ?_); rintro e w12 ⟨rfl, hb⟩; refine ⟨_, rfl, ?_⟩; have n0_ := Za (blk_below (g := gb118) (o := .cells #[.int .i64 a0_0, .int .i64 a0_1, .int .i64 a0_2, .int .i64 a0_3, .int .i64 a0_4, .int .i64 a0_5, .int .i64 a0_6] 55 (0, 0)) (bb_4 BK118.out) hb); have n1_ := Za (blk_below (g := gb119) (o := .cells #[.int .i64 a1_0, .int .i64 a1_1, .int .i64 a1_2] 32 (0, 0)) (bb_4 BK119.out) hb); have n2_ := Za (blk_below (g := gb120) (o := .cells #[.int .i64 0, .int .i64 0, .int .i64 0, .int .i64 0, .int .i64 0, .int .i64 0, .int .i64 0] 55 (0, 0)) (bb_4 BK120.out) hb); have n3_ := Za (below_step (hb_4 HB.out) hb); clear BK118; clear BK119; clear BK120; clear HB; have BK118 := n0_; have BK119 := n1_; have BK120 := n2_; have HB := n3_; clear n0_ n1_ n2_ n3_; (try clear hb); (try clear hb2); (try clear hk); (try clear hi); have hcz13_0 : w12.cell? ⟨gb118, 0, none⟩ = some (.int .i64 a0_0) := (Xe BK118.out 0).trans rfl; have hcz13_1 : w12.cell? ⟨gb118, 1, none⟩ = some (.int .i64 a0_1) := (Xe BK118.out 1).trans rfl; have hcz13_2 : w12.cell? ⟨gb118, 2, none⟩ = some (.int .i64 a0_2) := (Xe BK118.out 2).trans rfl; have hcz13_3 : w12.cell? ⟨gb118, 3, none⟩ = some (.int .i64 a0_3) := (Xe BK118.out 3).trans rfl; have hcz13_4 : w12.cell? ⟨gb118, 4, none⟩ = some (.int .i64 a0_4) := (Xe BK118.out 4).trans rfl; have hcz13_5 : w12.cell? ⟨gb118, 5, none⟩ = some (.int .i64 a0_5) := (Xe BK118.out 5).trans rfl; have hcz13_6 : w12.cell? ⟨gb118, 6, none⟩ = some (.int .i64 a0_6) := (Xe BK118.out 6).trans rfl; have hfz13_0 := Xd BK118.out 0; have hfz13_1 := Xd BK118.out 1; have hfz13_2 := Xd BK118.out 2; have hfz13_3 := Xd BK118.out 3; have hfz13_4 := Xd BK118.out 4; have hfz13_5 := Xd BK118.out 5; have hfz13_6 := Xd BK118.out 6; have hcz14_0 : w12.cell? ⟨gb120, 0, none⟩ = some (.int .i64 0) := (Xe BK120.out 0).trans rfl; have hcz14_1 : w12.cell? ⟨gb120, 1, none⟩ = some (.int .i64 0) := (Xe BK120.out 1).trans rfl; have hcz14_2 : w12.cell? ⟨gb120, 2, none⟩ = some (.int .i64 0) := (Xe BK120.out 2).trans rfl; have hcz14_3 : w12.cell? ⟨gb120, 3, none⟩ = some (.int .i64 0) := (Xe BK120.out 3).trans rfl; have hcz14_4 : w12.cell? ⟨gb120, 4, none⟩ = some (.int .i64 0) := (Xe BK120.out 4).trans rfl; have hcz14_5 : w12.cell? ⟨gb120, 5, none⟩ = some (.int .i64 0) := (Xe BK120.out 5).trans rfl; have hcz14_6 : w12.cell? ⟨gb120, 6, none⟩ = some (.int .i64 0) := (Xe BK120.out 6).trans rfl; have hfz14_0 := Xd BK120.out 0; have hfz14_1 := Xd BK120.out 1; have hfz14_2 := Xd BK120.out 2; have hfz14_3 := Xd BK120.out 3; have hfz14_4 := Xd BK120.out 4; have hfz14_5 := Xd BK120.out 5; have hfz14_6 := Xd BK120.out 6))
 refine bodyPost_ret (results_cell_row rfl _ _ gb120 55 #[.int .i64 a0_0, .int .i64 a0_1, .int .i64 a0_2, .int .i64 a0_3, .int .i64 t121, .int .i64 t122, .int .i64 t123] (0, 0) _ rfl (by (with_reducible repeat (first | refine Xf ?_ _ | refine Xh ?_ | refine Xg ?_ _)); refine blk_put (cs := #[.int .i64 a0_0, .int .i64 a0_1, .int .i64 a0_2, .int .i64 a0_3, .int .i64 t121, .int .i64 t122, .int .i64 0]) ?_ 6 _ rfl; (with_reducible repeat (first | refine Xf ?_ _ | refine Xh ?_ | refine Xg ?_ _)); refine blk_put (cs := #[.int .i64 a0_0, .int .i64 a0_1, .int .i64 a0_2, .int .i64 a0_3, .int .i64 t121, .int .i64 0, .int .i64 0]) ?_ 5 _ rfl; (with_reducible repeat (first | refine Xf ?_ _ | refine Xh ?_ | refine Xg ?_ _)); refine blk_put (cs := #[.int .i64 a0_0, .int .i64 a0_1, .int .i64 a0_2, .int .i64 a0_3, .int .i64 0, .int .i64 0, .int .i64 0]) ?_ 4 _ rfl; (with_reducible repeat (first | refine Xf ?_ _ | refine Xh ?_ | refine Xg ?_ _)); refine blk_put (cs := #[.int .i64 a0_0, .int .i64 a0_1, .int .i64 a0_2, .int .i64 0, .int .i64 0, .int .i64 0, .int .i64 0]) ?_ 3 _ rfl; (with_reducible repeat (first | refine Xf ?_ _ | refine Xh ?_ | refine Xg ?_ _)); refine blk_put (cs := #[.int .i64 a0_0, .int .i64 a0_1, .int .i64 0, .int .i64 0, .int .i64 0, .int .i64 0, .int .i64 0]) ?_ 2 _ rfl; (with_reducible repeat (first | refine Xf ?_ _ | refine Xh ?_ | refine Xg ?_ _)); refine blk_put (cs := #[.int .i64 a0_0, .int .i64 0, .int .i64 0, .int .i64 0, .int .i64 0, .int .i64 0, .int .i64 0]) ?_ 1 _ rfl; (with_reducible repeat (first | refine Xf ?_ _ | refine Xh ?_ | refine Xg ?_ _)); refine blk_put (cs := #[.int .i64 0, .int .i64 0, .int .i64 0, .int .i64 0, .int .i64 0, .int .i64 0, .int .i64 0]) ?_ 0 _ rfl; (with_reducible repeat (first | refine Xf ?_ _ | refine Xh ?_ | refine Xg ?_ _)); refine blk_far ?_ NB120_118.out _; (with_reducible repeat (first | refine Xf ?_ _ | refine Xh ?_ | refine Xg ?_ _)); refine blk_far ?_ NB120_118.out _; (with_reducible repeat (first | refine Xf ?_ _ | refine Xh ?_ | refine Xg ?_ _)); refine blk_far ?_ NB120_118.out _; (with_reducible repeat (first | refine Xf ?_ _ | refine Xh ?_ | refine Xg ?_ _)); exact BK120.out) Try.underlying55 rfl (by kernel_rfl)) rfl ?_
 exact ⟨by first | rfl | (simp [errW_none, errW_some] <;> rfl) | (simp [*, errW_none, errW_some] <;> rfl), by repeat (first | (with_reducible first | exact HB.out | apply below_alloc | apply pw_below_drewN | apply below_drew1 | refine below_set ?_ GE118.out | refine below_set ?_ GE119.out | refine below_set ?_ GE120.out) | exact HB.out)⟩

/-! ### layer_Of: function 38 -/
def layer_Of.f (a0_0 : Int) (a0_1 : Int) (a0_2 : Int) (a0_3 : Int) : Option (Int × Int × Int × Int × Int × Int × Int) := some (a0_0, a0_1, a0_2, a0_3, 0, 0, 0)
set_option maxHeartbeats 8000000 in
set_option maxRecDepth 100000 in
theorem layer_Of.calls (a0_0 : Int) (a0_1 : Int) (a0_2 : Int) (a0_3 : Int) (r1 : Int) (r2 : Int) (r3 : Int) (r4 : Int) (r5 : Int) (r6 : Int) (r7 : Int) (w : World) (h : layer_Of.f a0_0 a0_1 a0_2 a0_3 = some (r1, r2, r3, r4, r5, r6, r7)) :
  Calls Try.prog 38 #[.agg #[.int .i64 a0_0, .int .i64 a0_1, .int .i64 a0_2, .int .i64 a0_3]] w fun e w' => e = .returned (.agg #[.int .i64 r1, .int .i64 r2, .int .i64 r3, .int .i64 r4, .int .i64 r5, .int .i64 r6, .int .i64 r7]) ∧ Below w.heap.size w w' := by
 have hu37 := Try.underlying37
 have hu55 := Try.underlying55
 have HB := Za (Below.refl w.heap.size w)
 have H : (some (a0_0, a0_1, a0_2, a0_3, 0, 0, 0)) = some (r1, r2, r3, r4, r5, r6, r7) := h
 clear h
 simp only [Option.some.injEq, Prod.mk.injEq] at H
 obtain ⟨rfl, rfl, rfl, rfl, rfl, rfl, rfl⟩ := H
 go_enter Try.func38, Try.ntmps38
 go_wp2_with (first | ((with_reducible refine gate_dst (N := 1) rfl ?_); refine box_event ?hg (N := 1) ?hd (cs := #[.int .i64 a0_0, .int .i64 a0_1, .int .i64 a0_2, .int .i64 a0_3]) (t := 37) ?hr ?_; (case hd => rfl); (case hg => rfl); (case hr => first | (go_simp; done) | (go_simp; rfl)); intro gb124 hg w2 hbox hb; have n0_ := Za (below_step (hb_4 HB.out) hb); have n1_ := Za (hbox); have n2_ := Za ((by rw [hg]; exact (Xi (hb_4 HB.out)) : w.heap.size ≤ gb124)); have n3_ := Za ((by rw [hg]; exact (Xi (hb_4 HB.out)) : w.heap.size ≤ gb124)); clear HB; have HB := n0_; have BK124 := n1_; have GW124 := n2_; have GE124 := n3_; clear n0_ n1_ n2_ n3_; clear hb hbox hg) | ((with_reducible refine gate_dst (N := 2) rfl ?_); refine box_event ?hg (N := 2) ?hd (cs := #[.int .i64 0, .int .i64 0, .int .i64 0, .int .i64 0, .int .i64 0, .int .i64 0, .int .i64 0]) (t := 55) ?hr ?_; (case hd => rfl); (case hg => rfl); (case hr => first | (go_simp; done) | (go_simp; rfl)); intro gb125 hg w3 hbox hb; have n0_ := Za (blk_below (g := gb124) (o := .cells #[.int .i64 a0_0, .int .i64 a0_1, .int .i64 a0_2, .int .i64 a0_3] 37 (0, 0)) (bb_4 BK124.out) hb); have n1_ := Za (below_step (hb_4 HB.out) hb); have n2_ := Za (hbox); have n3_ := Za ((by rw [hg]; exact (Xi (hb_4 HB.out)) : w.heap.size ≤ gb125)); have n4_ := Za ((by rw [hg]; exact (Xi (hb_4 HB.out)) : w.heap.size ≤ gb125)); have n5_ := Za ((by rw [hg]; exact Nat.ne_of_lt (blk_lt (g := gb124) (o := .cells #[.int .i64 a0_0, .int .i64 a0_1, .int .i64 a0_2, .int .i64 a0_3] 37 (0, 0)) (bb_4 BK124.out)) : gb124 ≠ gb125)); have n6_ := Za ((by rw [hg]; exact Nat.ne_of_gt (blk_lt (g := gb124) (o := .cells #[.int .i64 a0_0, .int .i64 a0_1, .int .i64 a0_2, .int .i64 a0_3] 37 (0, 0)) (bb_4 BK124.out)) : gb125 ≠ gb124)); clear BK124; clear HB; have BK124 := n0_; have HB := n1_; have BK125 := n2_; have GW125 := n3_; have GE125 := n4_; have NB124_125 := n5_; have NB125_124 := n6_; clear n0_ n1_ n2_ n3_ n4_ n5_ n6_; clear hb hbox hg; have hnb4 := NB124_125.out; have hnc4 := NB125_124.out; have hcz5_0 : w3.cell? ⟨gb124, 0, none⟩ = some (.int .i64 a0_0) := (Xe BK124.out 0).trans rfl; have hcz5_1 : w3.cell? ⟨gb124, 1, none⟩ = some (.int .i64 a0_1) := (Xe BK124.out 1).trans rfl; have hcz5_2 : w3.cell? ⟨gb124, 2, none⟩ = some (.int .i64 a0_2) := (Xe BK124.out 2).trans rfl; have hcz5_3 : w3.cell? ⟨gb124, 3, none⟩ = some (.int .i64 a0_3) := (Xe BK124.out 3).trans rfl; have hfz5_0 := Xd BK124.out 0; have hfz5_1 := Xd BK124.out 1; have hfz5_2 := Xd BK124.out 2; have hfz5_3 := Xd BK124.out 3; have hcz6_0 : w3.cell? ⟨gb125, 0, none⟩ = some (.int .i64 0) := (Xe BK125.out 0).trans rfl; have hcz6_1 : w3.cell? ⟨gb125, 1, none⟩ = some (.int .i64 0) := (Xe BK125.out 1).trans rfl; have hcz6_2 : w3.cell? ⟨gb125, 2, none⟩ = some (.int .i64 0) := (Xe BK125.out 2).trans rfl; have hcz6_3 : w3.cell? ⟨gb125, 3, none⟩ = some (.int .i64 0) := (Xe BK125.out 3).trans rfl; have hcz6_4 : w3.cell? ⟨gb125, 4, none⟩ = some (.int .i64 0) := (Xe BK125.out 4).trans rfl; have hcz6_5 : w3.cell? ⟨gb125, 5, none⟩ = some (.int .i64 0) := (Xe BK125.out 5).trans rfl; have hcz6_6 : w3.cell? ⟨gb125, 6, none⟩ = some (.int .i64 0) := (Xe BK125.out 6).trans rfl; have hfz6_0 := Xd BK125.out 0; have hfz6_1 := Xd BK125.out 1; have hfz6_2 := Xd BK125.out 2; have hfz6_3 := Xd BK125.out 3; have hfz6_4 := Xd BK125.out 4; have hfz6_5 := Xd BK125.out 5; have hfz6_6 := Xd BK125.out 6))
 refine bodyPost_ret (results_cell_row rfl _ _ gb125 55 #[.int .i64 a0_0, .int .i64 a0_1, .int .i64 a0_2, .int .i64 a0_3, .int .i64 0, .int .i64 0, .int .i64 0] (0, 0) _ rfl (by (with_reducible repeat (first | refine Xf ?_ _ | refine Xh ?_ | refine Xg ?_ _)); refine blk_put (cs := #[.int .i64 a0_0, .int .i64 a0_1, .int .i64 a0_2, .int .i64 a0_3, .int .i64 0, .int .i64 0, .int .i64 0]) ?_ 6 _ rfl; (with_reducible repeat (first | refine Xf ?_ _ | refine Xh ?_ | refine Xg ?_ _)); refine blk_put (cs := #[.int .i64 a0_0, .int .i64 a0_1, .int .i64 a0_2, .int .i64 a0_3, .int .i64 0, .int .i64 0, .int .i64 0]) ?_ 5 _ rfl; (with_reducible repeat (first | refine Xf ?_ _ | refine Xh ?_ | refine Xg ?_ _)); refine blk_put (cs := #[.int .i64 a0_0, .int .i64 a0_1, .int .i64 a0_2, .int .i64 a0_3, .int .i64 0, .int .i64 0, .int .i64 0]) ?_ 4 _ rfl; (with_reducible repeat (first | refine Xf ?_ _ | refine Xh ?_ | refine Xg ?_ _)); refine blk_put (cs := #[.int .i64 a0_0, .int .i64 a0_1, .int .i64 a0_2, .int .i64 0, .int .i64 0, .int .i64 0, .int .i64 0]) ?_ 3 _ rfl; (with_reducible repeat (first | refine Xf ?_ _ | refine Xh ?_ | refine Xg ?_ _)); refine blk_put (cs := #[.int .i64 a0_0, .int .i64 a0_1, .int .i64 0, .int .i64 0, .int .i64 0, .int .i64 0, .int .i64 0]) ?_ 2 _ rfl; (with_reducible repeat (first | refine Xf ?_ _ | refine Xh ?_ | refine Xg ?_ _)); refine blk_put (cs := #[.int .i64 a0_0, .int .i64 0, .int .i64 0, .int .i64 0, .int .i64 0, .int .i64 0, .int .i64 0]) ?_ 1 _ rfl; (with_reducible repeat (first | refine Xf ?_ _ | refine Xh ?_ | refine Xg ?_ _)); refine blk_put (cs := #[.int .i64 0, .int .i64 0, .int .i64 0, .int .i64 0, .int .i64 0, .int .i64 0, .int .i64 0]) ?_ 0 _ rfl; (with_reducible repeat (first | refine Xf ?_ _ | refine Xh ?_ | refine Xg ?_ _)); exact BK125.out) Try.underlying55 rfl (by kernel_rfl)) rfl ?_
 exact ⟨by first | rfl | (simp [errW_none, errW_some] <;> rfl) | (simp [*, errW_none, errW_some] <;> rfl), by repeat (first | (with_reducible first | exact HB.out | apply below_alloc | apply pw_below_drewN | apply below_drew1 | refine below_set ?_ GE124.out | refine below_set ?_ GE125.out) | exact HB.out)⟩

end Go.Proofs.Ythgmjhidigoneaa.PLayerKeeps
