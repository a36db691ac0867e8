import Derived.Test.YtnahjeeochfljaaPBoxSplitsx0
import Derived.Test.YtnahjeeochfljaaPBoxSplitsx1
import Derived.Test.YtnahjeeochfljaaPBoxSplitsx3
import Derived.Test.YtnahjeeochfljaaPBoxSplitsx4
namespace Go.Proofs.Ytnahjeeochfljaa.PBoxSplits
open Go.RowKit Go.Proofs.YtnahjeeochfljaaW.PrintWords Go.Proofs.YtnahjeeochfljaaW.PrintLast Go.Proofs.YtnahjeeochfljaaW.PrintMore
open Bool renaming true → Zt, false → Zf
open Go.Proofs.YtnahjeeochfljaaW.PrintWords.Aside0 renaming mk → Za
open List renaming setIfInBounds_toArray → Xa, set_cons_zero → Xb, set_cons_succ → Xc
open Go.Proofs.YtnahjeeochfljaaW.PrintWords renaming blk_cell → Xd, blk_drew → Xe, blk_drewN → Xf, blk_alloc → Xg, cell_far → Xh, blk_frozen → Xi, blk_far → Xl, Aside0 → Xm, below_size → Xp, blk_lt → Xq, blk_put → Xr, below_drew1 → Xs, below_set → Xt, blk_below → Xu, below_step → Xv, pw_below_drewN → Xw
open Go.Proofs.YtnahjeeochfljaaW.PrintLast renaming i64_w → Xj, i32_w → Xk, any_of → Xn, pure_ → Xo
open Go.IntKind renaming i64 → J
attribute [local go_sem] max2_int min2_int max_two min_two max_three min_three max_four min_four   -- for this text's walks alone
set_option linter.unusedVariables false
set_option linter.unusedSimpArgs false
theorem bb_5 {p q : Prop} (h : q) (f : q → p := by intro h_; (with_reducible repeat (first | refine blk_drewN ?_ _ | refine blk_drew ?_ | refine blk_alloc ?_ _)); exact h_) : p := f h
theorem hb_5 {B : Nat} {w W W1 : World} (h : Below B w W) (f : Below B w W → Below B w W1 := by intro h_; repeat (first | (with_reducible first | exact h_ | apply below_alloc | apply pw_below_drewN | apply below_drew1 | refine below_set ?_ (Aside0.out (by assumption))) | exact h_)) : Below B w W1 := f h

attribute [local go_sem high] eqA27
/-! ### gatherumlaw04_BoxSplits: function 4 -/
mutual
def gatherumlaw04_BoxSplits.j0 : Nat → Bool → Int → List (S27) → Int → Int → Int → Int → Int → Int → Option (Bool)
 | 0, _, _, _, _, _, _, _, _, _ => none
 | k + 1, x1, x2, x7, x8, x9, x137000, x137001, x137002, x137003 => (gatherumref04_Empty.f x137000 x137001 x137002 x137003).bind fun t141 => (if t141 = Zt then (some ((x7.length : Int) == 0)) else (if x2 ≤ x8 then (gatherumlaw04_BoxSplits.j1 k x1 x2 x7 Zt x137000 x137001 x137002 x137003) else (gatherumlaw04_BoxSplits.j1 k x1 x2 x7 (decide (x2 ≥ x9)) x137000 x137001 x137002 x137003)))
def gatherumlaw04_BoxSplits.j1 : Nat → Bool → Int → List (S27) → Bool → Int → Int → Int → Int → Option (Bool)
 | 0, _, _, _, _, _, _, _, _ => none
 | k + 1, x1, x2, x7, x39, x137000, x137001, x137002, x137003 => if x39 = Zt then (if (x7.length : Int) = 1 then (if 0 < (x7.length : Int) then (some (((rd_T27 x7 0).f0) == x137000 && (((rd_T27 x7 0).f1) == x137001 && (((rd_T27 x7 0).f2) == x137002 && (((rd_T27 x7 0).f3) == x137003))))) else (none)) else (some Zf)) else (if x1 = Zt then (if (x7.length : Int) = 2 then (if 0 < (x7.length : Int) then (if (((rd_T27 x7 0).f0) == x137000 && (((rd_T27 x7 0).f1) == x137001 && (((rd_T27 x7 0).f2) == x2 && (((rd_T27 x7 0).f3) == x137003)))) = Zt then (if 1 < (x7.length : Int) then (some (((rd_T27 x7 1).f0) == x2 && (((rd_T27 x7 1).f1) == x137001 && (((rd_T27 x7 1).f2) == x137002 && (((rd_T27 x7 1).f3) == x137003))))) else (none)) else (some Zf)) else (none)) else (some Zf)) else (if (x7.length : Int) = 2 then (if 0 < (x7.length : Int) then (if (((rd_T27 x7 0).f0) == x137000 && (((rd_T27 x7 0).f1) == x137001 && (((rd_T27 x7 0).f2) == x137002 && (((rd_T27 x7 0).f3) == x2)))) = Zt then (if 1 < (x7.length : Int) then (some (((rd_T27 x7 1).f0) == x137000 && (((rd_T27 x7 1).f1) == x2 && (((rd_T27 x7 1).f2) == x137002 && (((rd_T27 x7 1).f3) == x137003))))) else (none)) else (some Zf)) else (none)) else (some Zf)))
end
def gatherumlaw04_BoxSplits.f (k : Nat) (a0_0 : Int) (a0_1 : Int) (a0_2 : Int) (a0_3 : Int) (a1 : Bool) (a2 : Int) : Option (Bool) := (gatherumlaw04_alive.f k).bind fun t137 => (if t137 = Zt then ((box_Split.f k a0_0 a0_1 a0_2 a0_3 a1 a2).bind fun t138 => (if a1 = Zt then (gatherumlaw04_BoxSplits.j0 k a1 a2 t138 a0_0 a0_2 a0_0 a0_1 a0_2 a0_3) else (gatherumlaw04_BoxSplits.j0 k a1 a2 t138 a0_1 a0_3 a0_0 a0_1 a0_2 a0_3))) else (some Zf))
theorem gatherumlaw04_BoxSplits.mono_l : ∀ k, (∀ y0 y1 y2 y3 y4 y5 y6 y7 y8, LeO (gatherumlaw04_BoxSplits.j0 k y0 y1 y2 y3 y4 y5 y6 y7 y8) (gatherumlaw04_BoxSplits.j0 (k + 1) y0 y1 y2 y3 y4 y5 y6 y7 y8)) ∧ (∀ y0 y1 y2 y3 y4 y5 y6 y7, LeO (gatherumlaw04_BoxSplits.j1 k y0 y1 y2 y3 y4 y5 y6 y7) (gatherumlaw04_BoxSplits.j1 (k + 1) y0 y1 y2 y3 y4 y5 y6 y7))
 | 0 => ⟨fun _ _ _ _ _ _ _ _ _ r h => by simp [gatherumlaw04_BoxSplits.j0] at h, fun _ _ _ _ _ _ _ _ r h => by simp [gatherumlaw04_BoxSplits.j1] at h⟩
 | k + 1 => by
  obtain ⟨ih0, ih1⟩ := gatherumlaw04_BoxSplits.mono_l k
  refine ⟨?_, ?_⟩
  ·intro y0 y1 y2 y3 y4 y5 y6 y7 y8
   unfold gatherumlaw04_BoxSplits.j0
   repeat' first
   | (with_reducible exact ih0 _ _ _ _ _ _ _ _ _)
   | (with_reducible exact ih1 _ _ _ _ _ _ _ _)
   | (with_reducible exact box_Split.mono _ _ _ _ _ _ _)
   | (with_reducible exact gatherumlaw04_alive.mono _)
   | (with_reducible exact LeO.refl _)
   | (with_reducible exact LeO.none _)
   | (with_reducible refine LeO.ite ?_ ?_)
   | (with_reducible refine LeO.bind ?_ (fun _ => ?_))
   | exact ih0 _ _ _ _ _ _ _ _ _
   | exact ih1 _ _ _ _ _ _ _ _
   | exact box_Split.mono _ _ _ _ _ _ _
   | exact gatherumlaw04_alive.mono _
   | exact LeO.none _
   | refine LeO.ite ?_ ?_
   | refine LeO.bind ?_ (fun _ => ?_)
  ·intro y0 y1 y2 y3 y4 y5 y6 y7
   unfold gatherumlaw04_BoxSplits.j1
   repeat' first
   | (with_reducible exact ih0 _ _ _ _ _ _ _ _ _)
   | (with_reducible exact ih1 _ _ _ _ _ _ _ _)
   | (with_reducible exact box_Split.mono _ _ _ _ _ _ _)
   | (with_reducible exact gatherumlaw04_alive.mono _)
   | (with_reducible exact LeO.refl _)
   | (with_reducible exact LeO.none _)
   | (with_reducible refine LeO.ite ?_ ?_)
   | (with_reducible refine LeO.bind ?_ (fun _ => ?_))
   | exact ih0 _ _ _ _ _ _ _ _ _
   | exact ih1 _ _ _ _ _ _ _ _
   | exact box_Split.mono _ _ _ _ _ _ _
   | exact gatherumlaw04_alive.mono _
   | exact LeO.none _
   | refine LeO.ite ?_ ?_
   | refine LeO.bind ?_ (fun _ => ?_)
theorem gatherumlaw04_BoxSplits.mono : ∀ a0 a1 a2 a3 a4 a5 k, LeO (gatherumlaw04_BoxSplits.f k a0 a1 a2 a3 a4 a5) (gatherumlaw04_BoxSplits.f (k + 1) a0 a1 a2 a3 a4 a5) := by
 intro a0 a1 a2 a3 a4 a5 k
 obtain ⟨ih0, ih1⟩ := gatherumlaw04_BoxSplits.mono_l k
 unfold gatherumlaw04_BoxSplits.f
 repeat' first
   | (with_reducible exact ih0 _ _ _ _ _ _ _ _ _)
   | (with_reducible exact ih1 _ _ _ _ _ _ _ _)
   | (with_reducible exact box_Split.mono _ _ _ _ _ _ _)
   | (with_reducible exact gatherumlaw04_alive.mono _)
   | (with_reducible exact LeO.refl _)
   | (with_reducible exact LeO.none _)
   | (with_reducible refine LeO.ite ?_ ?_)
   | (with_reducible refine LeO.bind ?_ (fun _ => ?_))
   | exact ih0 _ _ _ _ _ _ _ _ _
   | exact ih1 _ _ _ _ _ _ _ _
   | exact box_Split.mono _ _ _ _ _ _ _
   | exact gatherumlaw04_alive.mono _
   | exact LeO.none _
   | refine LeO.ite ?_ ?_
   | refine LeO.bind ?_ (fun _ => ?_)
def gatherumlaw04_BoxSplits.T10 : Bool × List (List Nat × List Nat) := (Zt, [([], []), ([0], [0]), ([1], [1]), ([2], [2]), ([3], [3]), ([4, 3], [3, 4]), ([5, 3], [3, 5]), ([3], [3]), ([6, 7, 3], [3, 6, 7]), ([3, 8], [3, 8]), ([9, 3, 0, 1, 2, 3, 4, 5, 6, 7, 8, 9], [9])])
def gatherumlaw04_BoxSplits.B10 : List Nat := [0, 1, 3, 7, 15, 31, 63, 15, 255, 511, 1023]
theorem gatherumlaw04_BoxSplits.tab10 : rtab .any (opsOf Try.f4 10) = gatherumlaw04_BoxSplits.T10 := by kernel_rfl
theorem gatherumlaw04_BoxSplits.bits10 : waitsOk gatherumlaw04_BoxSplits.T10.2 gatherumlaw04_BoxSplits.B10 = Zt := by kernel_rfl
def gatherumlaw04_BoxSplits.T17 : Bool × List (List Nat × List Nat) := (Zt, [([], []), ([0], [0]), ([1], [1]), ([2], [2]), ([3], [3]), ([4, 3], [3, 4]), ([5, 3], [3, 5]), ([3], [3]), ([6, 7, 3], [3, 6, 7]), ([3, 8], [3, 8]), ([9, 3], [9]), ([10], [10]), ([11, 10], [10, 11]), ([12, 10], [10, 12]), ([10], [10]), ([13, 14, 10], [10, 13, 14]), ([10, 15], [10, 15]), ([16, 10, 0, 1, 2, 3, 4, 5, 6, 7, 8, 9, 10, 11, 12, 13, 14, 15, 16], [16])])
def gatherumlaw04_BoxSplits.B17 : List Nat := [0, 1, 3, 7, 15, 31, 63, 15, 255, 511, 1023, 2047, 4095, 8191, 2047, 32767, 65535, 131071]
theorem gatherumlaw04_BoxSplits.tab17 : rtab .any (opsOf Try.f4 17) = gatherumlaw04_BoxSplits.T17 := by kernel_rfl
theorem gatherumlaw04_BoxSplits.bits17 : waitsOk gatherumlaw04_BoxSplits.T17.2 gatherumlaw04_BoxSplits.B17 = Zt := by kernel_rfl
set_option maxHeartbeats 8000000 in
set_option maxRecDepth 100000 in
theorem gatherumlaw04_BoxSplits.calls (k : Nat) (a0_0 : Int) (a0_1 : Int) (a0_2 : Int) (a0_3 : Int) (a1 : Bool) (a2 : Int) (r : Bool) (w : World) (h : gatherumlaw04_BoxSplits.f k a0_0 a0_1 a0_2 a0_3 a1 a2 = some r) :
  Calls Try.prog 4 #[.agg #[.int J a0_0, .int J a0_1, .int J a0_2, .int J a0_3], .bool a1, .int J a2] w fun e w' => e = .returned (.bool r) ∧ Below w.heap.size w w' := by
 have hu27 := Try.underlying27
 have HB := Za (Below.refl w.heap.size w)
 have H : ((gatherumlaw04_alive.f k).bind fun t137 => (if t137 = Zt then ((box_Split.f k a0_0 a0_1 a0_2 a0_3 a1 a2).bind fun t138 => (if a1 = Zt then (gatherumlaw04_BoxSplits.j0 k a1 a2 t138 a0_0 a0_2 a0_0 a0_1 a0_2 a0_3) else (gatherumlaw04_BoxSplits.j0 k a1 a2 t138 a0_1 a0_3 a0_0 a0_1 a0_2 a0_3))) else (some Zf))) = some r := h
 clear h
 replace H := Option.bind_eq_some_iff.mp H
 obtain ⟨t137, A40, H⟩ := H
 replace H : (if t137 = Zt then ((box_Split.f k a0_0 a0_1 a0_2 a0_3 a1 a2).bind fun t138 => (if a1 = Zt then (gatherumlaw04_BoxSplits.j0 k a1 a2 t138 a0_0 a0_2 a0_0 a0_1 a0_2 a0_3) else (gatherumlaw04_BoxSplits.j0 k a1 a2 t138 a0_1 a0_3 a0_0 a0_1 a0_2 a0_3))) else (some Zf)) = some r := H
 have A4 := Za A40
 clear A40
 by_cases c5 : t137 = Zt
 ·subst c5
  have H1 : ((box_Split.f k a0_0 a0_1 a0_2 a0_3 a1 a2).bind fun t138 => (if a1 = Zt then (gatherumlaw04_BoxSplits.j0 k a1 a2 t138 a0_0 a0_2 a0_0 a0_1 a0_2 a0_3) else (gatherumlaw04_BoxSplits.j0 k a1 a2 t138 a0_1 a0_3 a0_0 a0_1 a0_2 a0_3))) = some r := by rw [if_pos rfl] at H; exact H
  clear H
  have H := H1
  clear H1
  replace H := Option.bind_eq_some_iff.mp H
  obtain ⟨t138, A60, H⟩ := H
  replace H : (if a1 = Zt then (gatherumlaw04_BoxSplits.j0 k a1 a2 t138 a0_0 a0_2 a0_0 a0_1 a0_2 a0_3) else (gatherumlaw04_BoxSplits.j0 k a1 a2 t138 a0_1 a0_3 a0_0 a0_1 a0_2 a0_3)) = some r := H
  have A6 := Za A60
  clear A60
  have HC7 := Za H
  clear H
  go_enter Try.func4, Try.ntmps4
  try go_wp2_with (first | ((with_reducible refine gate_dst (N := 3) rfl ?_); refine box_event ?hg (N := 3) ?hd (cs := #[.int J a0_0, .int J a0_1, .int J a0_2, .int J a0_3]) (t := 27) ?hr ?_; (case hd => rfl); (case hg => rfl); (case hr => first | (go_simp; done) | (go_simp; rfl)); intro vA hg w8 hbox hb; have n0_ := Za (Xv (hb_5 HB.out) hb); have n1_ := Za (hbox); have n2_ := Za ((by rw [hg]; exact (Xp (hb_5 HB.out)) : w.heap.size ≤ vA)); have n3_ := Za ((by rw [hg]; exact (Xp (hb_5 HB.out)) : w.heap.size ≤ vA)); clear HB; have HB := n0_; have nA := n1_; have GW136 := n2_; have yB := n3_; clear n0_ n1_ n2_ n3_; clear hb hbox hg) | ((with_reducible refine gate_callee (f := 22) rfl ?_); refine goesL_ (some 12) rfl rfl Try.func22 (by kernel_rfl) rfl #[] rfl (by (try simp only [List.map_toArray, List.map_cons, List.map_nil]); first | done | rfl | (simp only [List.length_drop, List.length_take]; rfl)) ?_; (with_reducible refine (gatherumlaw04_alive.calls k  Zt _ A4.out).mono ?_); rintro e w9 ⟨rfl, hb⟩; refine ⟨_, rfl, ?_⟩; have n0_ := Za (Xu (g := vA) (o := .cells #[.int J a0_0, .int J a0_1, .int J a0_2, .int J a0_3] 27 (0, 0)) (bb_5 nA.out) hb); have n1_ := Za (Xv (hb_5 HB.out) hb); clear nA; clear HB; have nA := n0_; have HB := n1_; clear n0_ n1_; (try clear hb); (try clear hb2); (try clear hk); (try clear hi); have hcz10_0 : w9.cell? ⟨vA, 0, none⟩ = some (.int J a0_0) := (Xd nA.out 0).trans rfl; have hcz10_1 : w9.cell? ⟨vA, 1, none⟩ = some (.int J a0_1) := (Xd nA.out 1).trans rfl; have hcz10_2 : w9.cell? ⟨vA, 2, none⟩ = some (.int J a0_2) := (Xd nA.out 2).trans rfl; have hcz10_3 : w9.cell? ⟨vA, 3, none⟩ = some (.int J a0_3) := (Xd nA.out 3).trans rfl; have hfz10_0 := Xi nA.out 0; have hfz10_1 := Xi nA.out 1; have hfz10_2 := Xi nA.out 2; have hfz10_3 := Xi nA.out 3) | ((with_reducible refine gate_callee (f := 23) rfl ?_); refine goesL_ (some 17) rfl rfl Try.func23 (by kernel_rfl) rfl #[.agg #[.int J a0_0, .int J a0_1, .int J a0_2, .int J a0_3], .bool a1, .int J a2] rfl (by (try simp only [List.map_toArray, List.map_cons, List.map_nil]); first | done | rfl | (simp only [List.length_drop, List.length_take]; rfl)) ?_; (with_reducible refine (box_Split.calls k a0_0 a0_1 a0_2 a0_3 a1 a2 t138 _ A6.out).mono ?_); rintro e w11 ⟨v139, rfl, ho0, hb⟩; refine ⟨_, rfl, ?_⟩; have n0_ := Za (Kd.R_lower (Kd.R_newB ho0 (g := vA) (o := .cells #[.int J a0_0, .int J a0_1, .int J a0_2, .int J a0_3] 27 (0, 0)) (bb_5 nA.out)) (Xp (hb_5 HB.out))); have n1_ := Za (Xu (g := vA) (o := .cells #[.int J a0_0, .int J a0_1, .int J a0_2, .int J a0_3] 27 (0, 0)) (bb_5 nA.out) hb); have n2_ := Za (Xv (hb_5 HB.out) hb); clear nA; clear HB; have HO140 := n0_; have nA := n1_; have HB := n2_; clear n0_ n1_ n2_; (try clear hb); (try clear hb2); (try clear hk); (try clear hi); (try clear ho0)))
  have n0_ := Za (Kd.R_drew HO140.out)
  have n1_ := Za (Xe nA.out)
  have n2_ := Za (Xs HB.out)
  clear HO140
  clear nA
  clear HB
  have HO140 := n0_
  have nA := n1_
  have HB := n2_
  clear n0_ n1_ n2_
  refine start_ (n := 6) (S := fun w' => w'.cell? ⟨vA, 0, none⟩ = some (.int J a0_0) ∧ w'.cell? ⟨vA, 1, none⟩ = some (.int J a0_1) ∧ w'.cell? ⟨vA, 2, none⟩ = some (.int J a0_2) ∧ w'.cell? ⟨vA, 3, none⟩ = some (.int J a0_3)) (ds := []) #[Zf,Zf,Zf,Zf,Zf,Zf] (by kernel_rfl) rfl rfl ⟨(Xd nA.out 0).trans rfl, (Xd nA.out 1).trans rfl, (Xd nA.out 2).trans rfl, (Xd nA.out 3).trans rfl⟩ (fun hHeld => ?_)
  generalize w11.drew = w12 at HO140 nA HB hHeld ⊢
  refine Xo (i := 0) (N := some 18) (v := ?_) (a' := ?_) #[Zt,Zf,Zf,Zf,Zf,Zf] rfl rfl (by kernel_rfl) (fun _ _ _ h => h) (Or.inl ⟨by rfl, ?_⟩) ?_ ?_
  rotate_left
  ·intro w'
   go_simp
   with_reducible rfl
  rotate_left
  ·simp only [Act.put, Xa, Xb, Xc, Xj, Xk]
   rfl
  refine Xo (i := 2) (N := some 20) (v := ?_) (a' := ?_) #[Zt,Zf,Zt,Zf,Zf,Zf] rfl rfl (by kernel_rfl) (fun _ _ _ h => h) (Or.inl ⟨by rfl, ?_⟩) ?_ ?_
  rotate_left
  ·intro w'
   go_simp
   with_reducible rfl
  rotate_left
  ·simp only [Act.put, Xa, Xb, Xc, Xj, Xk]
   rfl
  refine take_ (i := 1) (N := some 19) (v := ?_) (a' := ?_) #[Zt,Zt,Zt,Zf,Zf,Zf] rfl rfl (by kernel_rfl) (fun _ _ _ h => h) (Or.inl ⟨by rfl, ?_⟩) hHeld ?_ ?_
  rotate_left
  ·rintro w' ⟨s0, s1, s2, s3⟩
   go_simp
   with_reducible rfl
  rotate_left
  ·simp only [Act.put, Xa, Xb, Xc, Xj, Xk]
   rfl
  refine Xo (i := 4) (N := some 8) (v := ?_) (a' := ?_) #[Zt,Zt,Zt,Zf,Zt,Zf] rfl rfl (by kernel_rfl) (fun _ _ _ h => h) (Or.inl ⟨by rfl, ?_⟩) ?_ ?_
  rotate_left
  ·intro w'
   go_simp
   with_reducible rfl
  rotate_left
  ·simp only [Act.put, Xa, Xb, Xc, Xj, Xk]
   rfl
  refine take_ (i := 3) (N := some 21) (v := ?_) (a' := ?_) #[Zt,Zt,Zt,Zt,Zt,Zf] rfl rfl (by kernel_rfl) (fun _ _ _ h => h) (Or.inl ⟨by rfl, ?_⟩) hHeld ?_ ?_
  rotate_left
  ·rintro w' ⟨s0, s1, s2, s3⟩
   go_simp
   with_reducible rfl
  rotate_left
  ·simp only [Act.put, Xa, Xb, Xc, Xj, Xk]
   rfl
  refine Xo (i := 5) (N := some 9) (v := ?_) (a' := ?_) #[Zt,Zt,Zt,Zt,Zt,Zt] rfl rfl (by kernel_rfl) (fun _ _ _ h => h) (Or.inl ⟨by rfl, ?_⟩) ?_ ?_
  rotate_left
  ·intro w'
   go_simp
   with_reducible rfl
  rotate_left
  ·simp only [Act.put, Xa, Xb, Xc, Xj, Xk]
   rfl
  refine done_ (by kernel_rfl) ?_
  go_upto_if 22 with (fail)
  go_cut [8, 9] (fun v8 v9 wc => ∃ (kq : Nat) (x8_6 : Int) (x9_6 : Int), v8 = .int J x8_6 ∧ v9 = .int J x9_6 ∧ Xm (gatherumlaw04_BoxSplits.j0 kq a1 a2 t138 x8_6 x9_6 a0_0 a0_1 a0_2 a0_3 = some r) ∧ Xm (kq ≤ k) ∧ Xm (Kd.R k27 27 wc w.heap.size (fun k_ => k_ ≠ vA) v139 t138) ∧ Xm (wc.heap[vA]? = some (.cells #[.int J a0_0, .int J a0_1, .int J a0_2, .int J a0_3] 27 (0, 0))) ∧ Xm (Below w.heap.size w wc))
  case first =>
   have H := HC7.out
   clear HC7
   by_cases c13 : a1 = Zt
   ·subst c13
    have H1 : (gatherumlaw04_BoxSplits.j0 k Zt a2 t138 a0_0 a0_2 a0_0 a0_1 a0_2 a0_3) = some r := by rw [if_pos rfl] at H; exact H
    clear H
    have H := H1
    clear H1
    have H' := Za H
    clear H
    try go_wp2
    have n0_ := Za (Kd.R_drew HO140.out)
    have n1_ := Za (Xe nA.out)
    have n2_ := Za (Xs HB.out)
    clear HO140
    clear nA
    clear HB
    have HO140 := n0_
    have nA := n1_
    have HB := n2_
    clear n0_ n1_ n2_
    refine start_ (n := 6) (S := fun w' => w'.cell? ⟨vA, 0, none⟩ = some (.int J a0_0) ∧ w'.cell? ⟨vA, 1, none⟩ = some (.int J a0_1) ∧ w'.cell? ⟨vA, 2, none⟩ = some (.int J a0_2) ∧ w'.cell? ⟨vA, 3, none⟩ = some (.int J a0_3)) (ds := []) #[Zf,Zf,Zf,Zf,Zf,Zf] (by kernel_rfl) rfl rfl ⟨(Xd nA.out 0).trans rfl, (Xd nA.out 1).trans rfl, (Xd nA.out 2).trans rfl, (Xd nA.out 3).trans rfl⟩ (fun hHeld => ?_)
    generalize w12.drew = w14 at HO140 nA HB hHeld ⊢
    refine Xo (i := 0) (N := some 23) (v := ?_) (a' := ?_) #[Zt,Zf,Zf,Zf,Zf,Zf] rfl rfl (by kernel_rfl) (fun _ _ _ h => h) (Or.inl ⟨by rfl, ?_⟩) ?_ ?_
    rotate_left
    ·intro w'
     go_simp
     with_reducible rfl
    rotate_left
    ·simp only [Act.put, Xa, Xb, Xc, Xj, Xk]
     rfl
    refine Xo (i := 2) (N := some 25) (v := ?_) (a' := ?_) #[Zt,Zf,Zt,Zf,Zf,Zf] rfl rfl (by kernel_rfl) (fun _ _ _ h => h) (Or.inl ⟨by rfl, ?_⟩) ?_ ?_
    rotate_left
    ·intro w'
     go_simp
     with_reducible rfl
    rotate_left
    ·simp only [Act.put, Xa, Xb, Xc, Xj, Xk]
     rfl
    refine take_ (i := 1) (N := some 24) (v := ?_) (a' := ?_) #[Zt,Zt,Zt,Zf,Zf,Zf] rfl rfl (by kernel_rfl) (fun _ _ _ h => h) (Or.inl ⟨by rfl, ?_⟩) hHeld ?_ ?_
    rotate_left
    ·rintro w' ⟨s0, s1, s2, s3⟩
     go_simp
     with_reducible rfl
    rotate_left
    ·simp only [Act.put, Xa, Xb, Xc, Xj, Xk]
     rfl
    refine Xo (i := 4) (N := some 8) (v := ?_) (a' := ?_) #[Zt,Zt,Zt,Zf,Zt,Zf] rfl rfl (by kernel_rfl) (fun _ _ _ h => h) (Or.inl ⟨by rfl, ?_⟩) ?_ ?_
    rotate_left
    ·intro w'
     go_simp
     with_reducible rfl
    rotate_left
    ·simp only [Act.put, Xa, Xb, Xc, Xj, Xk]
     rfl
    refine take_ (i := 3) (N := some 26) (v := ?_) (a' := ?_) #[Zt,Zt,Zt,Zt,Zt,Zf] rfl rfl (by kernel_rfl) (fun _ _ _ h => h) (Or.inl ⟨by rfl, ?_⟩) hHeld ?_ ?_
    rotate_left
    ·rintro w' ⟨s0, s1, s2, s3⟩
     go_simp
     with_reducible rfl
    rotate_left
    ·simp only [Act.put, Xa, Xb, Xc, Xj, Xk]
     rfl
    refine Xo (i := 5) (N := some 9) (v := ?_) (a' := ?_) #[Zt,Zt,Zt,Zt,Zt,Zt] rfl rfl (by kernel_rfl) (fun _ _ _ h => h) (Or.inl ⟨by rfl, ?_⟩) ?_ ?_
    rotate_left
    ·intro w'
     go_simp
     with_reducible rfl
    rotate_left
    ·simp only [Act.put, Xa, Xb, Xc, Xj, Xk]
     rfl
    refine done_ (by kernel_rfl) ?_
    try go_wp2
    go_meet
    case rel => exact ⟨_, (a0_0), (a0_2), (by first | rfl | (simp; done) | (simp [*]; done)), (by first | rfl | (simp; done) | (simp [*]; done)), H', ⟨by first | omega | exact Nat.le_refl _⟩, ⟨by (with_reducible repeat (first | apply Kd.R_alloc | apply Kd.R_drewN | apply Kd.R_drew)); exact Kd.R_mono HO140.out (fun _ hk => hk.2)⟩, ⟨by (with_reducible repeat (first | refine Xf ?_ _ | refine Xe ?_ | refine Xg ?_ _)); exact nA.out⟩, ⟨by repeat (first | (with_reducible first | exact HB.out | apply below_alloc | apply Xw | apply Xs | refine Xt ?_ yB.out) | exact HB.out)⟩⟩
   ·replace c13 := Bool.eq_false_iff.mpr c13
    subst c13
    have H1 : (gatherumlaw04_BoxSplits.j0 k Zf a2 t138 a0_1 a0_3 a0_0 a0_1 a0_2 a0_3) = some r := by rw [if_neg (show ¬ (Zf = Zt) by decide)] at H; exact H
    clear H
    have H := H1
    clear H1
    have H' := Za H
    clear H
    go_wp2
    go_meet
    case rel => exact ⟨_, (a0_1), (a0_3), (by first | rfl | (simp; done) | (simp [*]; done)), (by first | rfl | (simp; done) | (simp [*]; done)), H', ⟨by first | omega | exact Nat.le_refl _⟩, ⟨by (with_reducible repeat (first | apply Kd.R_alloc | apply Kd.R_drewN | apply Kd.R_drew)); exact Kd.R_mono HO140.out (fun _ hk => hk.2)⟩, ⟨by (with_reducible repeat (first | refine Xf ?_ _ | refine Xe ?_ | refine Xg ?_ _)); exact nA.out⟩, ⟨by repeat (first | (with_reducible first | exact HB.out | apply below_alloc | apply Xw | apply Xs | refine Xt ?_ yB.out) | exact HB.out)⟩⟩
  case rest =>
   clear HC7
   try clear c1
   try clear c2
   try clear p2
   try clear c4
   try clear c5
   try clear c13
   try clear hcz10_0
   try clear hcz10_1
   try clear hcz10_2
   try clear hcz10_3
   try clear hfz10_0
   try clear hfz10_1
   try clear hfz10_2
   try clear hfz10_3
   obtain ⟨kq, x8_6, x9_6, rfl, rfl, HA, HJ6, gB, nA, HB⟩ := hcut
   cases kq with
   | zero => exact absurd HA.out (by simp [gatherumlaw04_BoxSplits.j0])
   | succ kj6 =>
    have H := HA.out
    clear HA
    simp only [gatherumlaw04_BoxSplits.j0] at H
    replace H := Option.bind_eq_some_iff.mp H
    obtain ⟨t141, A150, H⟩ := H
    replace H : (if t141 = Zt then (some ((t138.length : Int) == 0)) else (if a2 ≤ x8_6 then (gatherumlaw04_BoxSplits.j1 kj6 a1 a2 t138 Zt a0_0 a0_1 a0_2 a0_3) else (gatherumlaw04_BoxSplits.j1 kj6 a1 a2 t138 (decide (a2 ≥ x9_6)) a0_0 a0_1 a0_2 a0_3))) = some r := H
    have A15 := Za A150
    clear A150
    by_cases c16 : t141 = Zt
    ·subst c16
     have H1 : (some ((t138.length : Int) == 0)) = some r := by rw [if_pos rfl] at H; exact H
     clear H
     have H := H1
     clear H1
     obtain rfl := Option.some.inj H
     have hcz17_0 : wc.cell? ⟨vA, 0, none⟩ = some (.int J a0_0) := (Xd nA.out 0).trans rfl
     have hcz17_1 : wc.cell? ⟨vA, 1, none⟩ = some (.int J a0_1) := (Xd nA.out 1).trans rfl
     have hcz17_2 : wc.cell? ⟨vA, 2, none⟩ = some (.int J a0_2) := (Xd nA.out 2).trans rfl
     have hcz17_3 : wc.cell? ⟨vA, 3, none⟩ = some (.int J a0_3) := (Xd nA.out 3).trans rfl
     have hfz17_0 := Xi nA.out 0
     have hfz17_1 := Xi nA.out 1
     have hfz17_2 := Xi nA.out 2
     have hfz17_3 := Xi nA.out 3
     go_wp2_with (first | ((with_reducible refine gate_callee (f := 24) rfl ?_); refine goesL_ (some 28) rfl rfl Try.func24 (by kernel_rfl) rfl #[.agg #[.int J a0_0, .int J a0_1, .int J a0_2, .int J a0_3]] rfl (by (try simp only [List.map_toArray, List.map_cons, List.map_nil]); first | done | rfl | (simp only [List.length_drop, List.length_take]; rfl)) ?_; (with_reducible refine (gatherumref04_Empty.calls a0_0 a0_1 a0_2 a0_3 Zt _ A15.out).mono ?_); rintro e w18 ⟨rfl, hb⟩; refine ⟨_, rfl, ?_⟩; have n0_ := Za (Kd.R_below (by (with_reducible repeat (first | apply Kd.R_alloc | apply Kd.R_drewN | apply Kd.R_drew)); exact gB.out) hb); have n1_ := Za (Xu (g := vA) (o := .cells #[.int J a0_0, .int J a0_1, .int J a0_2, .int J a0_3] 27 (0, 0)) (bb_5 nA.out) hb); have n2_ := Za (Xv (hb_5 HB.out) hb); clear gB; clear nA; clear HB; have gB := n0_; have nA := n1_; have HB := n2_; clear n0_ n1_ n2_; (try clear hb); (try clear hb2); (try clear hk); (try clear hi); obtain ⟨Ao19, co19, eo19⟩ := Kd.R_slice gB.out; subst eo19))
     go_ret
     exact ⟨by first | rfl | (simp [errW_none, errW_some] <;> rfl) | (simp [*, errW_none, errW_some] <;> rfl), by repeat (first | (with_reducible first | exact HB.out | apply below_alloc | apply Xw | apply Xs | refine Xt ?_ yB.out) | exact HB.out)⟩
    ·replace c16 := Bool.eq_false_iff.mpr c16
     subst c16
     have H1 : (if a2 ≤ x8_6 then (gatherumlaw04_BoxSplits.j1 kj6 a1 a2 t138 Zt a0_0 a0_1 a0_2 a0_3) else (gatherumlaw04_BoxSplits.j1 kj6 a1 a2 t138 (decide (a2 ≥ x9_6)) a0_0 a0_1 a0_2 a0_3)) = some r := by rw [if_neg (show ¬ (Zf = Zt) by decide)] at H; exact H
     clear H
     have H := H1
     clear H1
     have HC20 := Za H
     clear H
     have hcz21_0 : wc.cell? ⟨vA, 0, none⟩ = some (.int J a0_0) := (Xd nA.out 0).trans rfl
     have hcz21_1 : wc.cell? ⟨vA, 1, none⟩ = some (.int J a0_1) := (Xd nA.out 1).trans rfl
     have hcz21_2 : wc.cell? ⟨vA, 2, none⟩ = some (.int J a0_2) := (Xd nA.out 2).trans rfl
     have hcz21_3 : wc.cell? ⟨vA, 3, none⟩ = some (.int J a0_3) := (Xd nA.out 3).trans rfl
     have hfz21_0 := Xi nA.out 0
     have hfz21_1 := Xi nA.out 1
     have hfz21_2 := Xi nA.out 2
     have hfz21_3 := Xi nA.out 3
     go_upto_region 9 with (first | ((with_reducible refine gate_callee (f := 24) rfl ?_); refine goesL_ (some 28) rfl rfl Try.func24 (by kernel_rfl) rfl #[.agg #[.int J a0_0, .int J a0_1, .int J a0_2, .int J a0_3]] rfl (by (try simp only [List.map_toArray, List.map_cons, List.map_nil]); first | done | rfl | (simp only [List.length_drop, List.length_take]; rfl)) ?_; (with_reducible refine (gatherumref04_Empty.calls a0_0 a0_1 a0_2 a0_3 Zf _ A15.out).mono ?_); rintro e w22 ⟨rfl, hb⟩; refine ⟨_, rfl, ?_⟩; have n0_ := Za (Kd.R_below (by (with_reducible repeat (first | apply Kd.R_alloc | apply Kd.R_drewN | apply Kd.R_drew)); exact gB.out) hb); have n1_ := Za (Xu (g := vA) (o := .cells #[.int J a0_0, .int J a0_1, .int J a0_2, .int J a0_3] 27 (0, 0)) (bb_5 nA.out) hb); have n2_ := Za (Xv (hb_5 HB.out) hb); clear gB; clear nA; clear HB; have gB := n0_; have nA := n1_; have HB := n2_; clear n0_ n1_ n2_; (try clear hb); (try clear hb2); (try clear hk); (try clear hi)))
     (try simp only [Act.put, Xa, Xb, Xc])
     go_cut [39] (fun v39 wc => ∃ (kq : Nat) (x39_19 : Bool), v39 = .bool x39_19 ∧ Xm (gatherumlaw04_BoxSplits.j1 kq a1 a2 t138 x39_19 a0_0 a0_1 a0_2 a0_3 = some r) ∧ Xm (kq ≤ kj6) ∧ Xm (Kd.R k27 27 wc w.heap.size (fun k_ => k_ ≠ vA) v139 t138) ∧ Xm (wc.heap[vA]? = some (.cells #[.int J a0_0, .int J a0_1, .int J a0_2, .int J a0_3] 27 (0, 0))) ∧ Xm (Below w.heap.size w wc))
     case first =>
      have H := HC20.out
      clear HC20
      by_cases c23 : a2 ≤ x8_6
      ·rw [if_pos c23] at H
       have c23b0 : decide (a2 ≤ x8_6) = Zt := decide_eq_true c23
       clear c23
       (first | rw [c23b0] | (simp only [Xj, Xk]; rw [c23b0]) | skip)
       have H' := Za H
       clear H
       go_wp2
       go_meet
       case rel => exact ⟨_, (Zt), (by first | rfl | (simp; done) | (simp [*]; done)), H', ⟨by have := HJ6.out; first | omega | exact Nat.le_refl _⟩, ⟨by (with_reducible repeat (first | apply Kd.R_alloc | apply Kd.R_drewN | apply Kd.R_drew)); exact gB.out⟩, ⟨by (with_reducible repeat (first | refine Xf ?_ _ | refine Xe ?_ | refine Xg ?_ _)); exact nA.out⟩, ⟨by repeat (first | (with_reducible first | exact HB.out | apply below_alloc | apply Xw | apply Xs | refine Xt ?_ yB.out) | exact HB.out)⟩⟩
      ·rw [if_neg c23] at H
       have c23b0 : decide (a2 ≤ x8_6) = Zf := decide_eq_false c23
       clear c23
       (first | rw [c23b0] | (simp only [Xj, Xk]; rw [c23b0]) | skip)
       have H' := Za H
       clear H
       go_wp2
       go_meet
       case rel => exact ⟨_, (decide (a2 ≥ x9_6)), (by first | rfl | (simp; done) | (simp [*]; done)), H', ⟨by have := HJ6.out; first | omega | exact Nat.le_refl _⟩, ⟨by (with_reducible repeat (first | apply Kd.R_alloc | apply Kd.R_drewN | apply Kd.R_drew)); exact gB.out⟩, ⟨by (with_reducible repeat (first | refine Xf ?_ _ | refine Xe ?_ | refine Xg ?_ _)); exact nA.out⟩, ⟨by repeat (first | (with_reducible first | exact HB.out | apply below_alloc | apply Xw | apply Xs | refine Xt ?_ yB.out) | exact HB.out)⟩⟩
     case rest =>
      clear HC20
      try clear c1
      try clear c2
      try clear p2
      try clear c4
      try clear c5
      try clear c13
      try clear c16
      try clear c22
      try clear c23
      try clear c23b0
      try clear hcz10_0
      try clear hcz10_1
      try clear hcz10_2
      try clear hcz10_3
      try clear hcz17_0
      try clear hcz17_1
      try clear hcz17_2
      try clear hcz17_3
      try clear hcz21_0
      try clear hcz21_1
      try clear hcz21_2
      try clear hcz21_3
      try clear hfz10_0
      try clear hfz10_1
      try clear hfz10_2
      try clear hfz10_3
      try clear hfz17_0
      try clear hfz17_1
      try clear hfz17_2
      try clear hfz17_3
      try clear hfz21_0
      try clear hfz21_1
      try clear hfz21_2
      try clear hfz21_3
      try clear p2
      obtain ⟨kq, x39_19, rfl, HA, HJ19, gB, nA, HB⟩ := hcut
      cases kq with
      | zero => exact absurd HA.out (by simp [gatherumlaw04_BoxSplits.j1])
      | succ kj19 =>
       have H := HA.out
       clear HA
       simp only [gatherumlaw04_BoxSplits.j1] at H
       by_cases c24 : x39_19 = Zt
       ·subst c24
        have H1 : (if (t138.length : Int) = 1 then (if 0 < (t138.length : Int) then (some (((rd_T27 t138 0).f0) == a0_0 && (((rd_T27 t138 0).f1) == a0_1 && (((rd_T27 t138 0).f2) == a0_2 && (((rd_T27 t138 0).f3) == a0_3))))) else (none)) else (some Zf)) = some r := by rw [if_pos rfl] at H; exact H
        clear H
        have H := H1
        clear H1
        by_cases c25 : (t138.length : Int) = 1
        ·rw [if_pos c25] at H
         have c25b0 : ((t138.length : Int) == 1) = Zt := beq_iff_eq.mpr c25
         have c25b1 : ((t138.length : Int) != 1) = Zf := bne_eq_false_iff_eq.mpr c25
         clear c25
         by_cases c26 : 0 < (t138.length : Int)
         ·rw [if_pos c26] at H
          have c26b0 : decide (0 < (t138.length : Int)) = Zt := decide_eq_true c26
          have c26b1 : decide (0 < t138.length) = Zt := decide_eq_true (by omega)
          clear c26
          obtain rfl := Option.some.inj H
          try go_wp2
          have n0_ := Za (Kd.R_drew gB.out)
          have n1_ := Za (Xe nA.out)
          have n2_ := Za (Xs HB.out)
          clear gB
          clear nA
          clear HB
          have gB := n0_
          have nA := n1_
          have HB := n2_
          clear n0_ n1_ n2_
          obtain ⟨Ao28, co28, eo28⟩ := Kd.R_slice gB.out
          (first | subst eo28 | (injection eo28 with f1_ f2_ f3_; have f4_ := f1_.symm; have f5_ := f3_.symm; clear f1_ f2_ f3_; subst f4_; subst f5_))
          have p142 : 0 ≤ (0 : Int) := (by omega)
          have q142 : 0 < (t138.length : Int) := of_decide_eq_true (by first | (with_reducible assumption) | assumption)
          obtain ⟨ad142, e142, hx142_0, hx142_1, hx142_2, hx142_3⟩ := at_T27 (Kd.R_reads' gB.out).2.2 0 p142 q142
          cases e142
          have qi142 : (0 < t138.length) = True := eq_true (by omega)
          (try rw [show ((0 : Int)).toNat = 0 from rfl] at hx142_0)
          (try rw [show 0 * 4 = 0 from rfl] at hx142_0)
          (try rw [Addr.add_zero'] at hx142_0)
          (try rw [show ((0 : Int)).toNat = 0 from rfl] at hx142_1)
          (try rw [show 0 * 4 = 0 from rfl] at hx142_1)
          (try rw [Addr.add_zero'] at hx142_1)
          (try rw [show ((0 : Int)).toNat = 0 from rfl] at hx142_2)
          (try rw [show 0 * 4 = 0 from rfl] at hx142_2)
          (try rw [Addr.add_zero'] at hx142_2)
          (try rw [show ((0 : Int)).toNat = 0 from rfl] at hx142_3)
          (try rw [show 0 * 4 = 0 from rfl] at hx142_3)
          (try rw [Addr.add_zero'] at hx142_3)
          replace p142 := eq_true p142
          replace q142 := eq_true q142
          refine start_ (n := 11) (S := fun w' => w'.cell? ⟨vA, 0, none⟩ = some (.int J a0_0) ∧ w'.cell? ⟨vA, 1, none⟩ = some (.int J a0_1) ∧ w'.cell? ⟨vA, 2, none⟩ = some (.int J a0_2) ∧ w'.cell? ⟨vA, 3, none⟩ = some (.int J a0_3) ∧ w'.cell? ad142 = some (.int J ((rd_T27 t138 0).f0)) ∧ w'.cell? ⟨ad142.block, ad142.off + 1, none⟩ = some (.int J ((rd_T27 t138 0).f1)) ∧ w'.cell? ⟨ad142.block, ad142.off + 2, none⟩ = some (.int J ((rd_T27 t138 0).f2)) ∧ w'.cell? ⟨ad142.block, ad142.off + 3, none⟩ = some (.int J ((rd_T27 t138 0).f3))) (ds := []) #[Zf,Zf,Zf,Zf,Zf,Zf,Zf,Zf,Zf,Zf,Zf] (by kernel_rfl) rfl rfl ⟨(Xd nA.out 0).trans rfl, (Xd nA.out 1).trans rfl, (Xd nA.out 2).trans rfl, (Xd nA.out 3).trans rfl, hx142_0, hx142_1, hx142_2, hx142_3⟩ (fun hHeld => ?_); refine with_tabW gatherumlaw04_BoxSplits.tab10 gatherumlaw04_BoxSplits.bits10 (fun HT_ HW_ => ?_)
          generalize wc.drew = w27 at gB nA HB hx142_0 hx142_1 hx142_2 hx142_3 hHeld ⊢
          refine Xo (i := 0) (N := some 40) (v := ?_) (a' := ?_) #[Zt,Zf,Zf,Zf,Zf,Zf,Zf,Zf,Zf,Zf,Zf] rfl rfl (Xn HT_.out (by kernel_rfl)) (fun _ _ _ h => h) (Or.inl ⟨by rfl, ?_⟩) ?_ ?_
          rotate_left
          ·intro w'
           go_simp
           with_reducible rfl
          rotate_left
          ·simp only [Act.put, Xa, Xb, Xc, Xj, Xk]
           rfl
          refine Xo (i := 1) (N := some 41) (v := ?_) (a' := ?_) #[Zt,Zt,Zf,Zf,Zf,Zf,Zf,Zf,Zf,Zf,Zf] rfl rfl (Xn HT_.out (by kernel_rfl)) (fun _ _ _ h => h) (Or.inl ⟨by rfl, ?_⟩) ?_ ?_
          rotate_left
          ·intro w'
           go_simp
           with_reducible rfl
          rotate_left
          ·simp only [Act.put, Xa, Xb, Xc, Xj, Xk]
           rfl
          refine Xo (i := 2) (N := some 42) (v := ?_) (a' := ?_) #[Zt,Zt,Zt,Zf,Zf,Zf,Zf,Zf,Zf,Zf,Zf] rfl rfl (Xn HT_.out (by kernel_rfl)) (fun _ _ _ h => h) (Or.inl ⟨by rfl, ?_⟩) ?_ ?_
          rotate_left
          ·intro w'
           go_simp
           with_reducible rfl
          rotate_left
          ·simp only [Act.put, Xa, Xb, Xc, Xj, Xk]
           rfl
          refine Xo (i := 3) (N := some 43) (v := ?_) (a' := ?_) #[Zt,Zt,Zt,Zt,Zf,Zf,Zf,Zf,Zf,Zf,Zf] rfl rfl (Xn HT_.out (by kernel_rfl)) (fun _ _ _ h => h) (Or.inl ⟨by rfl, ?_⟩) ?_ ?_
          rotate_left
          ·intro w'
           go_simp
           with_reducible rfl
          rotate_left
          ·simp only [Act.put, Xa, Xb, Xc, Xj, Xk]
           rfl
          refine Xo (i := 4) (N := some 44) (v := ?_) (a' := ?_) #[Zt,Zt,Zt,Zt,Zt,Zf,Zf,Zf,Zf,Zf,Zf] rfl rfl (Xn HT_.out (by kernel_rfl)) (fun _ _ _ h => h) (Or.inl ⟨by rfl, ?_⟩) ?_ ?_
          rotate_left
          ·intro w'
           go_simp
           with_reducible rfl
          rotate_left
          ·simp only [Act.put, Xa, Xb, Xc, Xj, Xk]
           rfl
          refine Xo (i := 5) (N := some 45) (v := ?_) (a' := ?_) #[Zt,Zt,Zt,Zt,Zt,Zt,Zf,Zf,Zf,Zf,Zf] rfl rfl (Xn HT_.out (by kernel_rfl)) (fun _ _ _ h => h) (Or.inl ⟨by rfl, ?_⟩) ?_ ?_
          rotate_left
          ·intro w'
           go_simp
           with_reducible rfl
          rotate_left
          ·simp only [Act.put, Xa, Xb, Xc, Xj, Xk]
           rfl
          refine take_ (i := 6) (N := some 46) (v := ?_) (a' := ?_) #[Zt,Zt,Zt,Zt,Zt,Zt,Zt,Zf,Zf,Zf,Zf] rfl rfl (take_ofW HT_.out HW_.out (by kernel_rfl)) (fun _ _ _ h => h) (Or.inl ⟨by rfl, ?_⟩) hHeld ?_ ?_
          rotate_left
          ·rintro w' ⟨s0, s1, s2, s3, s4, s5, s6, s7⟩
           go_simp
           with_reducible rfl
          rotate_left
          ·simp only [Act.put, Xa, Xb, Xc, Xj, Xk]
           rfl
          refine take_ (i := 7) (N := some 47) (v := ?_) (a' := ?_) #[Zt,Zt,Zt,Zt,Zt,Zt,Zt,Zt,Zf,Zf,Zf] rfl rfl (take_ofW HT_.out HW_.out (by kernel_rfl)) (fun _ _ _ h => h) (Or.inl ⟨by rfl, ?_⟩) hHeld ?_ ?_
          rotate_left
          ·rintro w' ⟨s0, s1, s2, s3, s4, s5, s6, s7⟩
           go_simp
           with_reducible rfl
          rotate_left
          ·simp only [Act.put, Xa, Xb, Xc, Xj, Xk]
           rfl
          refine Xo (i := 8) (N := some 48) (v := ?_) (a' := ?_) #[Zt,Zt,Zt,Zt,Zt,Zt,Zt,Zt,Zt,Zf,Zf] rfl rfl (Xn HT_.out (by kernel_rfl)) (fun _ _ _ h => h) (Or.inl ⟨by rfl, ?_⟩) ?_ ?_
          rotate_left
          ·intro w'
           go_simp
           with_reducible rfl
          rotate_left
          ·simp only [Act.put, Xa, Xb, Xc, Xj, Xk]
           rfl
          refine Xo (i := 9) (N := some 49) (v := ?_) (a' := ?_) #[Zt,Zt,Zt,Zt,Zt,Zt,Zt,Zt,Zt,Zt,Zf] rfl rfl (Xn HT_.out (by kernel_rfl)) (fun _ _ _ h => h) (Or.inl ⟨by rfl, ?_⟩) ?_ ?_
          rotate_left
          ·intro w'
           go_simp
           with_reducible rfl
          rotate_left
          ·simp only [Act.put, Xa, Xb, Xc, Xj, Xk]
           rfl
          refine Xo (i := 10) (N := some 6) (v := ?_) (a' := ?_) #[Zt,Zt,Zt,Zt,Zt,Zt,Zt,Zt,Zt,Zt,Zt] rfl rfl (Xn HT_.out (by kernel_rfl)) (fun _ _ _ h => h) (Or.inl ⟨by rfl, ?_⟩) ?_ ?_
          rotate_left
          ·intro w'
           go_simp
           with_reducible rfl
          rotate_left
          ·simp only [Act.put, Xa, Xb, Xc, Xj, Xk]
           rfl
          refine done_ (done_of HT_.out (by kernel_rfl)) ?_
          try go_wp2
          go_ret
          exact ⟨by first | rfl | (simp [errW_none, errW_some] <;> rfl) | (simp [*, errW_none, errW_some] <;> rfl), by repeat (first | (with_reducible first | exact HB.out | apply below_alloc | apply Xw | apply Xs | refine Xt ?_ yB.out) | exact HB.out)⟩
         ·rw [if_neg c26] at H
          exact absurd H (by simp)
        ·rw [if_neg c25] at H
         have c25b0 : ((t138.length : Int) == 1) = Zf := beq_eq_false_iff_ne.mpr c25
         have c25b1 : ((t138.length : Int) != 1) = Zt := bne_iff_ne.mpr c25
         obtain rfl := Option.some.inj H
         try go_wp2
         have n0_ := Za (Kd.R_drew gB.out)
         have n1_ := Za (Xe nA.out)
         have n2_ := Za (Xs HB.out)
         clear gB
         clear nA
         clear HB
         have gB := n0_
         have nA := n1_
         have HB := n2_
         clear n0_ n1_ n2_
         obtain ⟨Ao30, co30, eo30⟩ := Kd.R_slice gB.out
         (first | subst eo30 | (injection eo30 with f1_ f2_ f3_; have f4_ := f1_.symm; have f5_ := f3_.symm; clear f1_ f2_ f3_; subst f4_; subst f5_))
         refine start_ (n := 11) (S := fun w' => True) (ds := []) #[Zf,Zf,Zf,Zf,Zf,Zf,Zf,Zf,Zf,Zf,Zf] (by kernel_rfl) rfl rfl trivial (fun hHeld => ?_); refine with_tabW gatherumlaw04_BoxSplits.tab10 gatherumlaw04_BoxSplits.bits10 (fun HT_ HW_ => ?_)
         generalize wc.drew = w29 at gB nA HB hHeld ⊢
         refine Xo (i := 0) (N := some 40) (v := ?_) (a' := ?_) #[Zt,Zf,Zf,Zf,Zf,Zf,Zf,Zf,Zf,Zf,Zf] rfl rfl (Xn HT_.out (by kernel_rfl)) (fun _ _ _ h => h) (Or.inl ⟨by rfl, ?_⟩) ?_ ?_
         rotate_left
         ·intro w'
          go_simp
          with_reducible rfl
         rotate_left
         ·simp only [Act.put, Xa, Xb, Xc, Xj, Xk]
          rfl
         refine Xo (i := 1) (N := some 41) (v := ?_) (a' := ?_) #[Zt,Zt,Zf,Zf,Zf,Zf,Zf,Zf,Zf,Zf,Zf] rfl rfl (Xn HT_.out (by kernel_rfl)) (fun _ _ _ h => h) (Or.inl ⟨by rfl, ?_⟩) ?_ ?_
         rotate_left
         ·intro w'
          go_simp
          with_reducible rfl
         rotate_left
         ·simp only [Act.put, Xa, Xb, Xc, Xj, Xk]
          rfl
         refine Xo (i := 2) (N := some 42) (v := ?_) (a' := ?_) #[Zt,Zt,Zt,Zf,Zf,Zf,Zf,Zf,Zf,Zf,Zf] rfl rfl (Xn HT_.out (by kernel_rfl)) (fun _ _ _ h => h) (Or.inl ⟨by rfl, ?_⟩) ?_ ?_
         rotate_left
         ·intro w'
          go_simp
          with_reducible rfl
         rotate_left
         ·simp only [Act.put, Xa, Xb, Xc, Xj, Xk]
          rfl
         refine Xo (i := 3) (N := some 43) (v := ?_) (a' := ?_) #[Zt,Zt,Zt,Zt,Zf,Zf,Zf,Zf,Zf,Zf,Zf] rfl rfl (Xn HT_.out (by kernel_rfl)) (fun _ _ _ h => h) (Or.inl ⟨by rfl, ?_⟩) ?_ ?_
         rotate_left
         ·intro w'
          go_simp
          with_reducible rfl
         rotate_left
         ·simp only [Act.put, Xa, Xb, Xc, Xj, Xk]
          rfl
         refine Xo (i := 4) (N := some 44) (v := undef) (a' := ?_) #[Zt,Zt,Zt,Zt,Zt,Zf,Zf,Zf,Zf,Zf,Zf] rfl rfl (Xn HT_.out (by kernel_rfl)) (fun _ _ _ h => h) (Or.inr ⟨by rfl, rfl⟩) ?_ ?_
         rotate_left
         ·simp only [Act.put, Xa, Xb, Xc, Xj, Xk]
          rfl
         refine Xo (i := 5) (N := some 45) (v := undef) (a' := ?_) #[Zt,Zt,Zt,Zt,Zt,Zt,Zf,Zf,Zf,Zf,Zf] rfl rfl (Xn HT_.out (by kernel_rfl)) (fun _ _ _ h => h) (Or.inr ⟨by rfl, rfl⟩) ?_ ?_
         rotate_left
         ·simp only [Act.put, Xa, Xb, Xc, Xj, Xk]
          rfl
         refine Xo (i := 6) (N := some 46) (v := undef) (a' := ?_) #[Zt,Zt,Zt,Zt,Zt,Zt,Zt,Zf,Zf,Zf,Zf] rfl rfl (Xn HT_.out (by kernel_rfl)) (fun _ _ _ h => h) (Or.inr ⟨by rfl, rfl⟩) ?_ ?_
         rotate_left
         ·simp only [Act.put, Xa, Xb, Xc, Xj, Xk]
          rfl
         refine Xo (i := 7) (N := some 47) (v := undef) (a' := ?_) #[Zt,Zt,Zt,Zt,Zt,Zt,Zt,Zt,Zf,Zf,Zf] rfl rfl (Xn HT_.out (by kernel_rfl)) (fun _ _ _ h => h) (Or.inr ⟨by rfl, rfl⟩) ?_ ?_
         rotate_left
         ·simp only [Act.put, Xa, Xb, Xc, Xj, Xk]
          rfl
         refine Xo (i := 8) (N := some 48) (v := undef) (a' := ?_) #[Zt,Zt,Zt,Zt,Zt,Zt,Zt,Zt,Zt,Zf,Zf] rfl rfl (Xn HT_.out (by kernel_rfl)) (fun _ _ _ h => h) (Or.inr ⟨by rfl, rfl⟩) ?_ ?_
         rotate_left
         ·simp only [Act.put, Xa, Xb, Xc, Xj, Xk]
          rfl
         refine Xo (i := 9) (N := some 49) (v := ?_) (a' := ?_) #[Zt,Zt,Zt,Zt,Zt,Zt,Zt,Zt,Zt,Zt,Zf] rfl rfl (Xn HT_.out (by kernel_rfl)) (fun _ _ _ h => h) (Or.inl ⟨by rfl, ?_⟩) ?_ ?_
         rotate_left
         ·intro w'
          go_simp
          with_reducible rfl
         rotate_left
         ·simp only [Act.put, Xa, Xb, Xc, Xj, Xk]
          rfl
         refine Xo (i := 10) (N := some 6) (v := ?_) (a' := ?_) #[Zt,Zt,Zt,Zt,Zt,Zt,Zt,Zt,Zt,Zt,Zt] rfl rfl (Xn HT_.out (by kernel_rfl)) (fun _ _ _ h => h) (Or.inl ⟨by rfl, ?_⟩) ?_ ?_
         rotate_left
         ·intro w'
          go_simp
          with_reducible rfl
         rotate_left
         ·simp only [Act.put, Xa, Xb, Xc, Xj, Xk]
          rfl
         refine done_ (done_of HT_.out (by kernel_rfl)) ?_
         try go_wp2
         go_ret
         exact ⟨by first | rfl | (simp [errW_none, errW_some] <;> rfl) | (simp [*, errW_none, errW_some] <;> rfl), by repeat (first | (with_reducible first | exact HB.out | apply below_alloc | apply Xw | apply Xs | refine Xt ?_ yB.out) | exact HB.out)⟩
       ·replace c24 := Bool.eq_false_iff.mpr c24
        subst c24
        have H1 : (if a1 = Zt then (if (t138.length : Int) = 2 then (if 0 < (t138.length : Int) then (if (((rd_T27 t138 0).f0) == a0_0 && (((rd_T27 t138 0).f1) == a0_1 && (((rd_T27 t138 0).f2) == a2 && (((rd_T27 t138 0).f3) == a0_3)))) = Zt then (if 1 < (t138.length : Int) then (some (((rd_T27 t138 1).f0) == a2 && (((rd_T27 t138 1).f1) == a0_1 && (((rd_T27 t138 1).f2) == a0_2 && (((rd_T27 t138 1).f3) == a0_3))))) else (none)) else (some Zf)) else (none)) else (some Zf)) else (if (t138.length : Int) = 2 then (if 0 < (t138.length : Int) then (if (((rd_T27 t138 0).f0) == a0_0 && (((rd_T27 t138 0).f1) == a0_1 && (((rd_T27 t138 0).f2) == a0_2 && (((rd_T27 t138 0).f3) == a2)))) = Zt then (if 1 < (t138.length : Int) then (some (((rd_T27 t138 1).f0) == a0_0 && (((rd_T27 t138 1).f1) == a2 && (((rd_T27 t138 1).f2) == a0_2 && (((rd_T27 t138 1).f3) == a0_3))))) else (none)) else (some Zf)) else (none)) else (some Zf))) = some r := by rw [if_neg (show ¬ (Zf = Zt) by decide)] at H; exact H
        clear H
        have H := H1
        clear H1
        by_cases c31 : a1 = Zt
        ·subst c31
         have H1 : (if (t138.length : Int) = 2 then (if 0 < (t138.length : Int) then (if (((rd_T27 t138 0).f0) == a0_0 && (((rd_T27 t138 0).f1) == a0_1 && (((rd_T27 t138 0).f2) == a2 && (((rd_T27 t138 0).f3) == a0_3)))) = Zt then (if 1 < (t138.length : Int) then (some (((rd_T27 t138 1).f0) == a2 && (((rd_T27 t138 1).f1) == a0_1 && (((rd_T27 t138 1).f2) == a0_2 && (((rd_T27 t138 1).f3) == a0_3))))) else (none)) else (some Zf)) else (none)) else (some Zf)) = some r := by rw [if_pos rfl] at H; exact H
         clear H
         have H := H1
         clear H1
         by_cases c32 : (t138.length : Int) = 2
         ·rw [if_pos c32] at H
          have c32b0 : ((t138.length : Int) == 2) = Zt := beq_iff_eq.mpr c32
          have c32b1 : ((t138.length : Int) != 2) = Zf := bne_eq_false_iff_eq.mpr c32
          clear c32
          by_cases c33 : 0 < (t138.length : Int)
          ·rw [if_pos c33] at H
           have c33b0 : decide (0 < (t138.length : Int)) = Zt := decide_eq_true c33
           have c33b1 : decide (0 < t138.length) = Zt := decide_eq_true (by omega)
           clear c33
           by_cases c34 : (((rd_T27 t138 0).f0) == a0_0 && (((rd_T27 t138 0).f1) == a0_1 && (((rd_T27 t138 0).f2) == a2 && (((rd_T27 t138 0).f3) == a0_3)))) = Zt
           ·rw [if_pos c34] at H
            have c34b0 : (((rd_T27 t138 0).f0) == a0_0 && (((rd_T27 t138 0).f1) == a0_1 && (((rd_T27 t138 0).f2) == a2 && (((rd_T27 t138 0).f3) == a0_3)))) = Zt := c34
            (try (have c34b1 : decide (((rd_T27 t138 0).f0) = a0_0 && (((rd_T27 t138 0).f1) == a0_1 && (((rd_T27 t138 0).f2) == a2 && (((rd_T27 t138 0).f3) == a0_3)))) = Zt := by simpa using c34))
            (try (have c34b2 : (((rd_T27 t138 0).f0) == a0_0 && (((rd_T27 t138 0).f1) == a0_1 && (((rd_T27 t138 0).f2) == a2 && (((rd_T27 t138 0).f3) == a0_3)))) = Zt := by simpa using c34))
            clear c34
            by_cases c35 : 1 < (t138.length : Int)
            ·rw [if_pos c35] at H
             have c35b0 : decide (1 < (t138.length : Int)) = Zt := decide_eq_true c35
             have c35b1 : decide (1 < t138.length) = Zt := decide_eq_true (by omega)
             clear c35
             obtain rfl := Option.some.inj H
             try go_wp2
             have n0_ := Za (Kd.R_drew gB.out)
             have n1_ := Za (Xe nA.out)
             have n2_ := Za (Xs HB.out)
             clear gB
             clear nA
             clear HB
             have gB := n0_
             have nA := n1_
             have HB := n2_
             clear n0_ n1_ n2_
             refine start_ (n := 6) (S := fun w' => w'.cell? ⟨vA, 0, none⟩ = some (.int J a0_0) ∧ w'.cell? ⟨vA, 1, none⟩ = some (.int J a0_1) ∧ w'.cell? ⟨vA, 2, none⟩ = some (.int J a0_2) ∧ w'.cell? ⟨vA, 3, none⟩ = some (.int J a0_3)) (ds := []) #[Zf,Zf,Zf,Zf,Zf,Zf] (by kernel_rfl) rfl rfl ⟨(Xd nA.out 0).trans rfl, (Xd nA.out 1).trans rfl, (Xd nA.out 2).trans rfl, (Xd nA.out 3).trans rfl⟩ (fun hHeld => ?_)
             generalize wc.drew = w36 at gB nA HB hHeld ⊢
             refine take_ (i := 0) (N := some 50) (v := ?_) (a' := ?_) #[Zt,Zf,Zf,Zf,Zf,Zf] rfl rfl (by kernel_rfl) (fun _ _ _ h => h) (Or.inl ⟨by rfl, ?_⟩) hHeld ?_ ?_
             rotate_left
             ·rintro w' ⟨s0, s1, s2, s3⟩
              go_simp
              with_reducible rfl
             rotate_left
             ·simp only [Act.put, Xa, Xb, Xc, Xj, Xk]
              rfl
             refine take_ (i := 1) (N := some 51) (v := ?_) (a' := ?_) #[Zt,Zt,Zf,Zf,Zf,Zf] rfl rfl (by kernel_rfl) (fun _ _ _ h => h) (Or.inl ⟨by rfl, ?_⟩) hHeld ?_ ?_
             rotate_left
             ·rintro w' ⟨s0, s1, s2, s3⟩
              go_simp
              with_reducible rfl
             rotate_left
             ·simp only [Act.put, Xa, Xb, Xc, Xj, Xk]
              rfl
             refine join_ (σ := Nat × Nat) 2 #[Zt,Zt,Zt,Zt,Zf,Zf] (fun s_ => [(10, .pointer (some ⟨s_.1, 0, none⟩)), (11, .pointer (some ⟨s_.2, 0, none⟩))]) (fun s_ w' => (w'.cell? ⟨vA, 0, none⟩ = some (.int J a0_0) ∧ w'.cell? ⟨vA, 1, none⟩ = some (.int J a0_1) ∧ w'.cell? ⟨vA, 2, none⟩ = some (.int J a0_2) ∧ w'.cell? ⟨vA, 3, none⟩ = some (.int J a0_3)) ∧ (Kd.R k27 27 w' w.heap.size (fun k_ => k_ ≠ vA ∧ k_ ≠ s_.1 ∧ k_ ≠ s_.2) v139 t138) ∧ (w'.heap[vA]? = some (.cells #[.int J a0_0, .int J a0_1, .int J a0_2, .int J a0_3] 27 (0, 0))) ∧ (w'.heap[s_.1]? = some (.cells #[.int J 0, .int J 0, .int J 0, .int J 0] 27 (0, 0))) ∧ (w'.heap[s_.2]? = some (.cells #[.int J 0, .int J 0, .int J 0, .int J 0] 27 (0, 0))) ∧ (w.heap.size ≤ s_.1) ∧ (w.heap.size ≤ s_.1) ∧ (vA ≠ s_.1) ∧ (s_.1 ≠ vA) ∧ (s_.2 ≠ s_.1) ∧ (s_.1 ≠ s_.2) ∧ (w.heap.size ≤ s_.2) ∧ (w.heap.size ≤ s_.2) ∧ (vA ≠ s_.2) ∧ (s_.2 ≠ vA) ∧ (Below w.heap.size w w')) ?_ ?_
             rotate_left
             ·intro hCont
              refine two_ (i := 2) (j := 3) (Ni := some 10) (Nj := some 11) #[Zt,Zt,Zt,Zf,Zf,Zf] #[Zt,Zt,Zf,Zt,Zf,Zf] rfl rfl rfl rfl (by kernel_rfl) (by decide) (by decide) (fun K hK => ?_) (fun K hK => ?_)
              ·skip
               refine box_step ?hg (N := 10) ?hd (cs := #[.int J 0, .int J 0, .int J 0, .int J 0]) (t := 27) ?hr ?_; (case hd => rfl); (case hg => rfl); (case hr => first | (go_simp; done) | (go_simp; rfl))
               intro gA hg w37 hbox hb
               have n0_ := Za (Kd.R_below (Kd.R_elderB (by (with_reducible repeat (first | apply Kd.R_alloc | apply Kd.R_drewN | apply Kd.R_drew)); exact gB.out) gA (Nat.le_of_eq hg.symm)) hb)
               have n1_ := Za (Xu (g := vA) (o := .cells #[.int J a0_0, .int J a0_1, .int J a0_2, .int J a0_3] 27 (0, 0)) (bb_5 nA.out) hb)
               have n2_ := Za (Xv (hb_5 HB.out) hb)
               have n3_ := Za (hbox)
               have n4_ := Za ((by rw [hg]; exact (Xp (hb_5 HB.out)) : w.heap.size ≤ gA))
               have n5_ := Za ((by rw [hg]; exact (Xp (hb_5 HB.out)) : w.heap.size ≤ gA))
               have n6_ := Za ((by rw [hg]; exact Nat.ne_of_lt (Xq (g := vA) (o := .cells #[.int J a0_0, .int J a0_1, .int J a0_2, .int J a0_3] 27 (0, 0)) (bb_5 nA.out)) : vA ≠ gA))
               have n7_ := Za ((by rw [hg]; exact Nat.ne_of_gt (Xq (g := vA) (o := .cells #[.int J a0_0, .int J a0_1, .int J a0_2, .int J a0_3] 27 (0, 0)) (bb_5 nA.out)) : gA ≠ vA))
               clear gB
               clear nA
               clear HB
               have gB := n0_
               have nA := n1_
               have HB := n2_
               have xA := n3_
               have vB := n4_
               have uB := n5_
               have uA := n6_
               have bB := n7_
               clear n0_ n1_ n2_ n3_ n4_ n5_ n6_ n7_
               clear hb hbox hg
               refine hK.out _ _ ⟨(Xd nA.out 0).trans rfl, (Xd nA.out 1).trans rfl, (Xd nA.out 2).trans rfl, (Xd nA.out 3).trans rfl⟩ (fun hHeld => ?_)
               clear hK K
               refine norm_ (a' := ?_) ?_ ?_
               rotate_left
               ·show Act.put _ (some 10) _ = _
                simp only [Act.put, Xa, Xb, Xc, Xj, Xk]
                rfl
               refine one_ (i := 3) (N := some 11) #[Zt,Zt,Zt,Zt,Zf,Zf] rfl rfl (by kernel_rfl) (by decide) (fun K hK => ?_)
               refine box_step ?hg (N := 11) ?hd (cs := #[.int J 0, .int J 0, .int J 0, .int J 0]) (t := 27) ?hr ?_; (case hd => rfl); (case hg => rfl); (case hr => first | (go_simp; done) | (go_simp; rfl))
               intro bA hg w38 hbox hb
               have n0_ := Za (Kd.R_below (Kd.R_elderB (by (with_reducible repeat (first | apply Kd.R_alloc | apply Kd.R_drewN | apply Kd.R_drew)); exact gB.out) bA (Nat.le_of_eq hg.symm)) hb)
               have n1_ := Za (Xu (g := vA) (o := .cells #[.int J a0_0, .int J a0_1, .int J a0_2, .int J a0_3] 27 (0, 0)) (bb_5 nA.out) hb)
               have n2_ := Za (Xu (g := gA) (o := .cells #[.int J 0, .int J 0, .int J 0, .int J 0] 27 (0, 0)) (bb_5 xA.out) hb)
               have n3_ := Za (Xv (hb_5 HB.out) hb)
               have n4_ := Za (hbox)
               have n5_ := Za ((by rw [hg]; exact (Xp (hb_5 HB.out)) : w.heap.size ≤ bA))
               have n6_ := Za ((by rw [hg]; exact (Xp (hb_5 HB.out)) : w.heap.size ≤ bA))
               have n7_ := Za ((by rw [hg]; exact Nat.ne_of_lt (Xq (g := vA) (o := .cells #[.int J a0_0, .int J a0_1, .int J a0_2, .int J a0_3] 27 (0, 0)) (bb_5 nA.out)) : vA ≠ bA))
               have n8_ := Za ((by rw [hg]; exact Nat.ne_of_gt (Xq (g := vA) (o := .cells #[.int J a0_0, .int J a0_1, .int J a0_2, .int J a0_3] 27 (0, 0)) (bb_5 nA.out)) : bA ≠ vA))
               have n9_ := Za ((by rw [hg]; exact Nat.ne_of_lt (Xq (g := gA) (o := .cells #[.int J 0, .int J 0, .int J 0, .int J 0] 27 (0, 0)) (bb_5 xA.out)) : gA ≠ bA))
               have n10_ := Za ((by rw [hg]; exact Nat.ne_of_gt (Xq (g := gA) (o := .cells #[.int J 0, .int J 0, .int J 0, .int J 0] 27 (0, 0)) (bb_5 xA.out)) : bA ≠ gA))
               clear gB
               clear nA
               clear xA
               clear HB
               have gB := n0_
               have nA := n1_
               have xA := n2_
               have HB := n3_
               have yA := n4_
               have xB := n5_
               have eB := n6_
               have eA := n7_
               have nB := n8_
               have zA := n9_
               have qA := n10_
               clear n0_ n1_ n2_ n3_ n4_ n5_ n6_ n7_ n8_ n9_ n10_
               clear hb hbox hg
               refine hK.out _ _ ⟨(Xd nA.out 0).trans rfl, (Xd nA.out 1).trans rfl, (Xd nA.out 2).trans rfl, (Xd nA.out 3).trans rfl⟩ (fun hHeld => ?_)
               clear hK K
               refine norm_ (a' := ?_) ?_ ?_
               rotate_left
               ·show Act.put _ (some 11) _ = _
                simp only [Act.put, Xa, Xb, Xc, Xj, Xk]
                rfl
               exact norm_ (by simp only [putAll, Act.put, Xa, Xb, Xc]) (hCont (gA, bA) _ ⟨hHeld, (by (with_reducible repeat (first | apply Kd.R_alloc | apply Kd.R_drewN | apply Kd.R_drew)); exact Kd.R_mono gB.out (fun _ hk => ⟨hk.1.1, ⟨hk.1.2, hk.2⟩⟩)), (bb_5 nA.out), (bb_5 xA.out), (bb_5 yA.out), vB.out, uB.out, uA.out, bB.out, qA.out, zA.out, xB.out, eB.out, eA.out, nB.out, (hb_5 HB.out)⟩)
              ·skip
               refine box_step ?hg (N := 11) ?hd (cs := #[.int J 0, .int J 0, .int J 0, .int J 0]) (t := 27) ?hr ?_; (case hd => rfl); (case hg => rfl); (case hr => first | (go_simp; done) | (go_simp; rfl))
               intro bA hg w37 hbox hb
               have n0_ := Za (Kd.R_below (Kd.R_elderB (by (with_reducible repeat (first | apply Kd.R_alloc | apply Kd.R_drewN | apply Kd.R_drew)); exact gB.out) bA (Nat.le_of_eq hg.symm)) hb)
               have n1_ := Za (Xu (g := vA) (o := .cells #[.int J a0_0, .int J a0_1, .int J a0_2, .int J a0_3] 27 (0, 0)) (bb_5 nA.out) hb)
               have n2_ := Za (Xv (hb_5 HB.out) hb)
               have n3_ := Za (hbox)
               have n4_ := Za ((by rw [hg]; exact (Xp (hb_5 HB.out)) : w.heap.size ≤ bA))
               have n5_ := Za ((by rw [hg]; exact (Xp (hb_5 HB.out)) : w.heap.size ≤ bA))
               have n6_ := Za ((by rw [hg]; exact Nat.ne_of_lt (Xq (g := vA) (o := .cells #[.int J a0_0, .int J a0_1, .int J a0_2, .int J a0_3] 27 (0, 0)) (bb_5 nA.out)) : vA ≠ bA))
               have n7_ := Za ((by rw [hg]; exact Nat.ne_of_gt (Xq (g := vA) (o := .cells #[.int J a0_0, .int J a0_1, .int J a0_2, .int J a0_3] 27 (0, 0)) (bb_5 nA.out)) : bA ≠ vA))
               clear gB
               clear nA
               clear HB
               have gB := n0_
               have nA := n1_
               have HB := n2_
               have yA := n3_
               have xB := n4_
               have eB := n5_
               have eA := n6_
               have nB := n7_
               clear n0_ n1_ n2_ n3_ n4_ n5_ n6_ n7_
               clear hb hbox hg
               refine hK.out _ _ ⟨(Xd nA.out 0).trans rfl, (Xd nA.out 1).trans rfl, (Xd nA.out 2).trans rfl, (Xd nA.out 3).trans rfl⟩ (fun hHeld => ?_)
               clear hK K
               refine norm_ (a' := ?_) ?_ ?_
               rotate_left
               ·show Act.put _ (some 11) _ = _
                simp only [Act.put, Xa, Xb, Xc, Xj, Xk]
                rfl
               refine one_ (i := 2) (N := some 10) #[Zt,Zt,Zt,Zt,Zf,Zf] rfl rfl (by kernel_rfl) (by decide) (fun K hK => ?_)
               refine box_step ?hg (N := 10) ?hd (cs := #[.int J 0, .int J 0, .int J 0, .int J 0]) (t := 27) ?hr ?_; (case hd => rfl); (case hg => rfl); (case hr => first | (go_simp; done) | (go_simp; rfl))
               intro gA hg w38 hbox hb
               have n0_ := Za (Kd.R_below (Kd.R_elderB (by (with_reducible repeat (first | apply Kd.R_alloc | apply Kd.R_drewN | apply Kd.R_drew)); exact gB.out) gA (Nat.le_of_eq hg.symm)) hb)
               have n1_ := Za (Xu (g := vA) (o := .cells #[.int J a0_0, .int J a0_1, .int J a0_2, .int J a0_3] 27 (0, 0)) (bb_5 nA.out) hb)
               have n2_ := Za (Xu (g := bA) (o := .cells #[.int J 0, .int J 0, .int J 0, .int J 0] 27 (0, 0)) (bb_5 yA.out) hb)
               have n3_ := Za (Xv (hb_5 HB.out) hb)
               have n4_ := Za (hbox)
               have n5_ := Za ((by rw [hg]; exact (Xp (hb_5 HB.out)) : w.heap.size ≤ gA))
               have n6_ := Za ((by rw [hg]; exact (Xp (hb_5 HB.out)) : w.heap.size ≤ gA))
               have n7_ := Za ((by rw [hg]; exact Nat.ne_of_lt (Xq (g := vA) (o := .cells #[.int J a0_0, .int J a0_1, .int J a0_2, .int J a0_3] 27 (0, 0)) (bb_5 nA.out)) : vA ≠ gA))
               have n8_ := Za ((by rw [hg]; exact Nat.ne_of_gt (Xq (g := vA) (o := .cells #[.int J a0_0, .int J a0_1, .int J a0_2, .int J a0_3] 27 (0, 0)) (bb_5 nA.out)) : gA ≠ vA))
               have n9_ := Za ((by rw [hg]; exact Nat.ne_of_lt (Xq (g := bA) (o := .cells #[.int J 0, .int J 0, .int J 0, .int J 0] 27 (0, 0)) (bb_5 yA.out)) : bA ≠ gA))
               have n10_ := Za ((by rw [hg]; exact Nat.ne_of_gt (Xq (g := bA) (o := .cells #[.int J 0, .int J 0, .int J 0, .int J 0] 27 (0, 0)) (bb_5 yA.out)) : gA ≠ bA))
               clear gB
               clear nA
               clear yA
               clear HB
               have gB := n0_
               have nA := n1_
               have yA := n2_
               have HB := n3_
               have xA := n4_
               have vB := n5_
               have uB := n6_
               have uA := n7_
               have bB := n8_
               have qA := n9_
               have zA := n10_
               clear n0_ n1_ n2_ n3_ n4_ n5_ n6_ n7_ n8_ n9_ n10_
               clear hb hbox hg
               refine hK.out _ _ ⟨(Xd nA.out 0).trans rfl, (Xd nA.out 1).trans rfl, (Xd nA.out 2).trans rfl, (Xd nA.out 3).trans rfl⟩ (fun hHeld => ?_)
               clear hK K
               refine norm_ (a' := ?_) ?_ ?_
               rotate_left
               ·show Act.put _ (some 10) _ = _
                simp only [Act.put, Xa, Xb, Xc, Xj, Xk]
                rfl
               exact norm_ (by simp only [putAll, Act.put, Xa, Xb, Xc]) (hCont (gA, bA) _ ⟨hHeld, (by (with_reducible repeat (first | apply Kd.R_alloc | apply Kd.R_drewN | apply Kd.R_drew)); exact Kd.R_mono gB.out (fun _ hk => ⟨hk.1.1, ⟨hk.2, hk.1.2⟩⟩)), (bb_5 nA.out), (bb_5 xA.out), (bb_5 yA.out), vB.out, uB.out, uA.out, bB.out, qA.out, zA.out, xB.out, eB.out, eA.out, nB.out, (hb_5 HB.out)⟩)
             rintro ⟨gA, bA⟩ w39 ⟨hS_, h0_, h1_, h2_, h3_, h4_, h5_, h6_, h7_, h8_, h9_, h10_, h11_, h12_, h13_, h14_⟩
             have n0_ : Xm (Kd.R k27 27 w39 w.heap.size (fun k_ => k_ ≠ vA ∧ k_ ≠ gA ∧ k_ ≠ bA) v139 t138) := ⟨h0_⟩
             have n1_ : Xm (w39.heap[vA]? = some (.cells #[.int J a0_0, .int J a0_1, .int J a0_2, .int J a0_3] 27 (0, 0))) := ⟨h1_⟩
             have n2_ : Xm (w39.heap[gA]? = some (.cells #[.int J 0, .int J 0, .int J 0, .int J 0] 27 (0, 0))) := ⟨h2_⟩
             have n3_ : Xm (w39.heap[bA]? = some (.cells #[.int J 0, .int J 0, .int J 0, .int J 0] 27 (0, 0))) := ⟨h3_⟩
             have n4_ : Xm (w.heap.size ≤ gA) := ⟨h4_⟩
             have n5_ : Xm (w.heap.size ≤ gA) := ⟨h5_⟩
             have n6_ : Xm (vA ≠ gA) := ⟨h6_⟩
             have n7_ : Xm (gA ≠ vA) := ⟨h7_⟩
             have n8_ : Xm (bA ≠ gA) := ⟨h8_⟩
             have n9_ : Xm (gA ≠ bA) := ⟨h9_⟩
             have n10_ : Xm (w.heap.size ≤ bA) := ⟨h10_⟩
             have n11_ : Xm (w.heap.size ≤ bA) := ⟨h11_⟩
             have n12_ : Xm (vA ≠ bA) := ⟨h12_⟩
             have n13_ : Xm (bA ≠ vA) := ⟨h13_⟩
             have n14_ : Xm (Below w.heap.size w w39) := ⟨h14_⟩
             clear gB
             clear nA
             clear HB
             clear h0_ h1_ h2_ h3_ h4_ h5_ h6_ h7_ h8_ h9_ h10_ h11_ h12_ h13_ h14_
             have gB := n0_
             have nA := n1_
             have xA := n2_
             have yA := n3_
             have vB := n4_
             have uB := n5_
             have uA := n6_
             have bB := n7_
             have qA := n8_
             have zA := n9_
             have xB := n10_
             have eB := n11_
             have eA := n12_
             have nB := n13_
             have HB := n14_
             clear n0_ n1_ n2_ n3_ n4_ n5_ n6_ n7_ n8_ n9_ n10_ n11_ n12_ n13_ n14_
             have hHeld : w39.cell? ⟨vA, 0, none⟩ = some (.int J a0_0) ∧ w39.cell? ⟨vA, 1, none⟩ = some (.int J a0_1) ∧ w39.cell? ⟨vA, 2, none⟩ = some (.int J a0_2) ∧ w39.cell? ⟨vA, 3, none⟩ = some (.int J a0_3) := hS_
             refine norm_ (a' := ?_) ?_ ?_
             rotate_left
             ·simp only [putAll, Act.put, Xa, Xb, Xc]
              rfl
             refine one_ (i := 4) (N := none) #[Zt,Zt,Zt,Zt,Zt,Zf] rfl rfl (by kernel_rfl) (by decide) (fun K hK => ?_)
             have hs40 : w39.cell? ⟨gA, 0, none⟩ = some (.int J 0) := (Xd xA.out 0).trans rfl
             have hfs40 := Xi xA.out 0
             have hns40_0 := uA.out
             have hns40_2 := qA.out
             have hms40_0 := bB.out
             have hms40_2 := zA.out
             have hs41 : w39.cell? ⟨gA, 1, none⟩ = some (.int J 0) := (Xd xA.out 1).trans rfl
             have hfs41 := Xi xA.out 1
             have hns41_0 := uA.out
             have hns41_2 := qA.out
             have hms41_0 := bB.out
             have hms41_2 := zA.out
             have hs42 : w39.cell? ⟨gA, 2, none⟩ = some (.int J 0) := (Xd xA.out 2).trans rfl
             have hfs42 := Xi xA.out 2
             have hns42_0 := uA.out
             have hns42_2 := qA.out
             have hms42_0 := bB.out
             have hms42_2 := zA.out
             have hs43 : w39.cell? ⟨gA, 3, none⟩ = some (.int J 0) := (Xd xA.out 3).trans rfl
             have hfs43 := Xi xA.out 3
             have hns43_0 := uA.out
             have hns43_2 := qA.out
             have hms43_0 := bB.out
             have hms43_2 := zA.out
             refine skip_ (w1 := ?_) (by rfl) rfl ?_ ?_
             rotate_left
             ·go_simp
              rfl
             refine hK.out _ _ ⟨((Xh (p := ⟨gA, _, none⟩) uA.out _).trans (((Xh (p := ⟨gA, _, none⟩) uA.out _).trans (((Xh (p := ⟨gA, _, none⟩) uA.out _).trans (((Xh (p := ⟨gA, _, none⟩) uA.out _).trans (hHeld.1)))))))), ((Xh (p := ⟨gA, _, none⟩) uA.out _).trans (((Xh (p := ⟨gA, _, none⟩) uA.out _).trans (((Xh (p := ⟨gA, _, none⟩) uA.out _).trans (((Xh (p := ⟨gA, _, none⟩) uA.out _).trans (hHeld.2.1)))))))), ((Xh (p := ⟨gA, _, none⟩) uA.out _).trans (((Xh (p := ⟨gA, _, none⟩) uA.out _).trans (((Xh (p := ⟨gA, _, none⟩) uA.out _).trans (((Xh (p := ⟨gA, _, none⟩) uA.out _).trans (hHeld.2.2.1)))))))), ((Xh (p := ⟨gA, _, none⟩) uA.out _).trans (((Xh (p := ⟨gA, _, none⟩) uA.out _).trans (((Xh (p := ⟨gA, _, none⟩) uA.out _).trans (((Xh (p := ⟨gA, _, none⟩) uA.out _).trans (hHeld.2.2.2))))))))⟩ (fun hHeld => ?_)
             clear hK K
             refine one_ (i := 5) (N := none) #[Zt,Zt,Zt,Zt,Zt,Zt] rfl rfl (by kernel_rfl) (by decide) (fun K hK => ?_)
             have hs44 : w39.cell? ⟨bA, 0, none⟩ = some (.int J 0) := (Xd yA.out 0).trans rfl
             have hfs44 := Xi yA.out 0
             have hns44_0 := eA.out
             have hns44_1 := zA.out
             have hms44_0 := nB.out
             have hms44_1 := qA.out
             have hs45 : w39.cell? ⟨bA, 1, none⟩ = some (.int J 0) := (Xd yA.out 1).trans rfl
             have hfs45 := Xi yA.out 1
             have hns45_0 := eA.out
             have hns45_1 := zA.out
             have hms45_0 := nB.out
             have hms45_1 := qA.out
             have hs46 : w39.cell? ⟨bA, 2, none⟩ = some (.int J 0) := (Xd yA.out 2).trans rfl
             have hfs46 := Xi yA.out 2
             have hns46_0 := eA.out
             have hns46_1 := zA.out
             have hms46_0 := nB.out
             have hms46_1 := qA.out
             have hs47 : w39.cell? ⟨bA, 3, none⟩ = some (.int J 0) := (Xd yA.out 3).trans rfl
             have hfs47 := Xi yA.out 3
             have hns47_0 := eA.out
             have hns47_1 := zA.out
             have hms47_0 := nB.out
             have hms47_1 := qA.out
             refine skip_ (w1 := ?_) (by rfl) rfl ?_ ?_
             rotate_left
             ·go_simp
              rfl
             refine hK.out _ _ ⟨((Xh (p := ⟨bA, _, none⟩) eA.out _).trans (((Xh (p := ⟨bA, _, none⟩) eA.out _).trans (((Xh (p := ⟨bA, _, none⟩) eA.out _).trans (((Xh (p := ⟨bA, _, none⟩) eA.out _).trans (hHeld.1)))))))), ((Xh (p := ⟨bA, _, none⟩) eA.out _).trans (((Xh (p := ⟨bA, _, none⟩) eA.out _).trans (((Xh (p := ⟨bA, _, none⟩) eA.out _).trans (((Xh (p := ⟨bA, _, none⟩) eA.out _).trans (hHeld.2.1)))))))), ((Xh (p := ⟨bA, _, none⟩) eA.out _).trans (((Xh (p := ⟨bA, _, none⟩) eA.out _).trans (((Xh (p := ⟨bA, _, none⟩) eA.out _).trans (((Xh (p := ⟨bA, _, none⟩) eA.out _).trans (hHeld.2.2.1)))))))), ((Xh (p := ⟨bA, _, none⟩) eA.out _).trans (((Xh (p := ⟨bA, _, none⟩) eA.out _).trans (((Xh (p := ⟨bA, _, none⟩) eA.out _).trans (((Xh (p := ⟨bA, _, none⟩) eA.out _).trans (hHeld.2.2.2))))))))⟩ (fun hHeld => ?_)
             clear hK K
             refine done_ (by kernel_rfl) ?_
             have hnb48 := bB.out
             have hnc48 := uA.out
             have hnb49 := zA.out
             have hnc49 := qA.out
             have hcz50_0 : w39.cell? ⟨gA, 0, none⟩ = some (.int J 0) := (Xd xA.out 0).trans rfl
             have hcz50_1 : w39.cell? ⟨gA, 1, none⟩ = some (.int J 0) := (Xd xA.out 1).trans rfl
             have hcz50_2 : w39.cell? ⟨gA, 2, none⟩ = some (.int J 0) := (Xd xA.out 2).trans rfl
             have hcz50_3 : w39.cell? ⟨gA, 3, none⟩ = some (.int J 0) := (Xd xA.out 3).trans rfl
             have hfz50_0 := Xi xA.out 0
             have hfz50_1 := Xi xA.out 1
             have hfz50_2 := Xi xA.out 2
             have hfz50_3 := Xi xA.out 3
             have hnb51 := nB.out
             have hnc51 := eA.out
             have hcz52_0 : w39.cell? ⟨bA, 0, none⟩ = some (.int J 0) := (Xd yA.out 0).trans rfl
             have hcz52_1 : w39.cell? ⟨bA, 1, none⟩ = some (.int J 0) := (Xd yA.out 1).trans rfl
             have hcz52_2 : w39.cell? ⟨bA, 2, none⟩ = some (.int J 0) := (Xd yA.out 2).trans rfl
             have hcz52_3 : w39.cell? ⟨bA, 3, none⟩ = some (.int J 0) := (Xd yA.out 3).trans rfl
             have hfz52_0 := Xi yA.out 0
             have hfz52_1 := Xi yA.out 1
             have hfz52_2 := Xi yA.out 2
             have hfz52_3 := Xi yA.out 3
             try go_wp2
             have n0_ : Xm (Kd.R k27 27 ((((((((((w39.setCell ⟨gA, 0, none⟩ (.int J a0_0)).setCell ⟨gA, 1, none⟩ (.int J a0_1)).setCell ⟨gA, 2, none⟩ (.int J a0_2)).setCell ⟨gA, 3, none⟩ (.int J a0_3)).setCell ⟨bA, 0, none⟩ (.int J a0_0)).setCell ⟨bA, 1, none⟩ (.int J a0_1)).setCell ⟨bA, 2, none⟩ (.int J a0_2)).setCell ⟨bA, 3, none⟩ (.int J a0_3)).setCell ⟨gA, 2, none⟩ (.int J a2)).setCell ⟨bA, 0, none⟩ (.int J a2)) w.heap.size (fun k_ => k_ ≠ vA ∧ k_ ≠ gA ∧ k_ ≠ bA) v139 t138) := ⟨by (with_reducible repeat (first | apply Kd.R_alloc | apply Kd.R_drewN | apply Kd.R_drew)); exact Kd.R_mono (Kd.R_far (p := ⟨bA, 0, none⟩) (Kd.R_far (p := ⟨gA, 2, none⟩) (Kd.R_far (p := ⟨bA, 3, none⟩) (Kd.R_far (p := ⟨bA, 2, none⟩) (Kd.R_far (p := ⟨bA, 1, none⟩) (Kd.R_far (p := ⟨bA, 0, none⟩) (Kd.R_far (p := ⟨gA, 3, none⟩) (Kd.R_far (p := ⟨gA, 2, none⟩) (Kd.R_far (p := ⟨gA, 1, none⟩) (Kd.R_far (p := ⟨gA, 0, none⟩) (Kd.R_mono (Kd.R_mono gB.out (fun k_ hk => (⟨hk, hk.2.1⟩ : _ ∧ k_ ≠ gA))) (fun k_ hk => (⟨hk, hk.1.2.2⟩ : _ ∧ k_ ≠ bA))) (fun _ hk => hk.1.2) (.int J a0_0)) (fun _ hk => hk.1.2) (.int J a0_1)) (fun _ hk => hk.1.2) (.int J a0_2)) (fun _ hk => hk.1.2) (.int J a0_3)) (fun _ hk => hk.2) (.int J a0_0)) (fun _ hk => hk.2) (.int J a0_1)) (fun _ hk => hk.2) (.int J a0_2)) (fun _ hk => hk.2) (.int J a0_3)) (fun _ hk => hk.1.2) (.int J a2)) (fun _ hk => hk.2) (.int J a2)) (fun _ hk => ⟨hk.1.1.1, ⟨hk.1.1.2.1, hk.1.1.2.2⟩⟩)⟩
             have n1_ : Xm (((((((((((w39.setCell ⟨gA, 0, none⟩ (.int J a0_0)).setCell ⟨gA, 1, none⟩ (.int J a0_1)).setCell ⟨gA, 2, none⟩ (.int J a0_2)).setCell ⟨gA, 3, none⟩ (.int J a0_3)).setCell ⟨bA, 0, none⟩ (.int J a0_0)).setCell ⟨bA, 1, none⟩ (.int J a0_1)).setCell ⟨bA, 2, none⟩ (.int J a0_2)).setCell ⟨bA, 3, none⟩ (.int J a0_3)).setCell ⟨gA, 2, none⟩ (.int J a2)).setCell ⟨bA, 0, none⟩ (.int J a2)).heap[vA]? = some (.cells #[.int J a0_0, .int J a0_1, .int J a0_2, .int J a0_3] 27 (0, 0))) := ⟨by (with_reducible repeat (first | refine Xf ?_ _ | refine Xe ?_ | refine Xg ?_ _)); refine Xl ?_ eA.out _; (with_reducible repeat (first | refine Xf ?_ _ | refine Xe ?_ | refine Xg ?_ _)); refine Xl ?_ uA.out _; (with_reducible repeat (first | refine Xf ?_ _ | refine Xe ?_ | refine Xg ?_ _)); refine Xl ?_ eA.out _; (with_reducible repeat (first | refine Xf ?_ _ | refine Xe ?_ | refine Xg ?_ _)); refine Xl ?_ eA.out _; (with_reducible repeat (first | refine Xf ?_ _ | refine Xe ?_ | refine Xg ?_ _)); refine Xl ?_ eA.out _; (with_reducible repeat (first | refine Xf ?_ _ | refine Xe ?_ | refine Xg ?_ _)); refine Xl ?_ eA.out _; (with_reducible repeat (first | refine Xf ?_ _ | refine Xe ?_ | refine Xg ?_ _)); refine Xl ?_ uA.out _; (with_reducible repeat (first | refine Xf ?_ _ | refine Xe ?_ | refine Xg ?_ _)); refine Xl ?_ uA.out _; (with_reducible repeat (first | refine Xf ?_ _ | refine Xe ?_ | refine Xg ?_ _)); refine Xl ?_ uA.out _; (with_reducible repeat (first | refine Xf ?_ _ | refine Xe ?_ | refine Xg ?_ _)); refine Xl ?_ uA.out _; (with_reducible repeat (first | refine Xf ?_ _ | refine Xe ?_ | refine Xg ?_ _)); exact nA.out⟩
             have n2_ : Xm (((((((((((w39.setCell ⟨gA, 0, none⟩ (.int J a0_0)).setCell ⟨gA, 1, none⟩ (.int J a0_1)).setCell ⟨gA, 2, none⟩ (.int J a0_2)).setCell ⟨gA, 3, none⟩ (.int J a0_3)).setCell ⟨bA, 0, none⟩ (.int J a0_0)).setCell ⟨bA, 1, none⟩ (.int J a0_1)).setCell ⟨bA, 2, none⟩ (.int J a0_2)).setCell ⟨bA, 3, none⟩ (.int J a0_3)).setCell ⟨gA, 2, none⟩ (.int J a2)).setCell ⟨bA, 0, none⟩ (.int J a2)).heap[gA]? = some (.cells #[.int J a0_0, .int J a0_1, .int J a2, .int J a0_3] 27 (0, 0))) := ⟨by (with_reducible repeat (first | refine Xf ?_ _ | refine Xe ?_ | refine Xg ?_ _)); refine Xl ?_ zA.out _; (with_reducible repeat (first | refine Xf ?_ _ | refine Xe ?_ | refine Xg ?_ _)); refine Xr (cs := #[.int J a0_0, .int J a0_1, .int J a0_2, .int J a0_3]) ?_ 2 _ rfl; (with_reducible repeat (first | refine Xf ?_ _ | refine Xe ?_ | refine Xg ?_ _)); refine Xl ?_ zA.out _; (with_reducible repeat (first | refine Xf ?_ _ | refine Xe ?_ | refine Xg ?_ _)); refine Xl ?_ zA.out _; (with_reducible repeat (first | refine Xf ?_ _ | refine Xe ?_ | refine Xg ?_ _)); refine Xl ?_ zA.out _; (with_reducible repeat (first | refine Xf ?_ _ | refine Xe ?_ | refine Xg ?_ _)); refine Xl ?_ zA.out _; (with_reducible repeat (first | refine Xf ?_ _ | refine Xe ?_ | refine Xg ?_ _)); refine Xr (cs := #[.int J a0_0, .int J a0_1, .int J a0_2, .int J 0]) ?_ 3 _ rfl; (with_reducible repeat (first | refine Xf ?_ _ | refine Xe ?_ | refine Xg ?_ _)); refine Xr (cs := #[.int J a0_0, .int J a0_1, .int J 0, .int J 0]) ?_ 2 _ rfl; (with_reducible repeat (first | refine Xf ?_ _ | refine Xe ?_ | refine Xg ?_ _)); refine Xr (cs := #[.int J a0_0, .int J 0, .int J 0, .int J 0]) ?_ 1 _ rfl; (with_reducible repeat (first | refine Xf ?_ _ | refine Xe ?_ | refine Xg ?_ _)); refine Xr (cs := #[.int J 0, .int J 0, .int J 0, .int J 0]) ?_ 0 _ rfl; (with_reducible repeat (first | refine Xf ?_ _ | refine Xe ?_ | refine Xg ?_ _)); exact xA.out⟩
             have n3_ : Xm (((((((((((w39.setCell ⟨gA, 0, none⟩ (.int J a0_0)).setCell ⟨gA, 1, none⟩ (.int J a0_1)).setCell ⟨gA, 2, none⟩ (.int J a0_2)).setCell ⟨gA, 3, none⟩ (.int J a0_3)).setCell ⟨bA, 0, none⟩ (.int J a0_0)).setCell ⟨bA, 1, none⟩ (.int J a0_1)).setCell ⟨bA, 2, none⟩ (.int J a0_2)).setCell ⟨bA, 3, none⟩ (.int J a0_3)).setCell ⟨gA, 2, none⟩ (.int J a2)).setCell ⟨bA, 0, none⟩ (.int J a2)).heap[bA]? = some (.cells #[.int J a2, .int J a0_1, .int J a0_2, .int J a0_3] 27 (0, 0))) := ⟨by (with_reducible repeat (first | refine Xf ?_ _ | refine Xe ?_ | refine Xg ?_ _)); refine Xr (cs := #[.int J a0_0, .int J a0_1, .int J a0_2, .int J a0_3]) ?_ 0 _ rfl; (with_reducible repeat (first | refine Xf ?_ _ | refine Xe ?_ | refine Xg ?_ _)); refine Xl ?_ qA.out _; (with_reducible repeat (first | refine Xf ?_ _ | refine Xe ?_ | refine Xg ?_ _)); refine Xr (cs := #[.int J a0_0, .int J a0_1, .int J a0_2, .int J 0]) ?_ 3 _ rfl; (with_reducible repeat (first | refine Xf ?_ _ | refine Xe ?_ | refine Xg ?_ _)); refine Xr (cs := #[.int J a0_0, .int J a0_1, .int J 0, .int J 0]) ?_ 2 _ rfl; (with_reducible repeat (first | refine Xf ?_ _ | refine Xe ?_ | refine Xg ?_ _)); refine Xr (cs := #[.int J a0_0, .int J 0, .int J 0, .int J 0]) ?_ 1 _ rfl; (with_reducible repeat (first | refine Xf ?_ _ | refine Xe ?_ | refine Xg ?_ _)); refine Xr (cs := #[.int J 0, .int J 0, .int J 0, .int J 0]) ?_ 0 _ rfl; (with_reducible repeat (first | refine Xf ?_ _ | refine Xe ?_ | refine Xg ?_ _)); refine Xl ?_ qA.out _; (with_reducible repeat (first | refine Xf ?_ _ | refine Xe ?_ | refine Xg ?_ _)); refine Xl ?_ qA.out _; (with_reducible repeat (first | refine Xf ?_ _ | refine Xe ?_ | refine Xg ?_ _)); refine Xl ?_ qA.out _; (with_reducible repeat (first | refine Xf ?_ _ | refine Xe ?_ | refine Xg ?_ _)); refine Xl ?_ qA.out _; (with_reducible repeat (first | refine Xf ?_ _ | refine Xe ?_ | refine Xg ?_ _)); exact yA.out⟩
             have n4_ : Xm (Below w.heap.size w ((((((((((w39.setCell ⟨gA, 0, none⟩ (.int J a0_0)).setCell ⟨gA, 1, none⟩ (.int J a0_1)).setCell ⟨gA, 2, none⟩ (.int J a0_2)).setCell ⟨gA, 3, none⟩ (.int J a0_3)).setCell ⟨bA, 0, none⟩ (.int J a0_0)).setCell ⟨bA, 1, none⟩ (.int J a0_1)).setCell ⟨bA, 2, none⟩ (.int J a0_2)).setCell ⟨bA, 3, none⟩ (.int J a0_3)).setCell ⟨gA, 2, none⟩ (.int J a2)).setCell ⟨bA, 0, none⟩ (.int J a2))) := ⟨by repeat (first | (with_reducible first | exact HB.out | apply below_alloc | apply Xw | apply Xs | refine Xt ?_ yB.out | refine Xt ?_ uB.out | refine Xt ?_ eB.out) | exact HB.out)⟩
             (try clear gB)
             (try clear nA)
             (try clear xA)
             (try clear yA)
             (try clear HB)
             generalize ((((((((((w39.setCell ⟨gA, 0, none⟩ (.int J a0_0)).setCell ⟨gA, 1, none⟩ (.int J a0_1)).setCell ⟨gA, 2, none⟩ (.int J a0_2)).setCell ⟨gA, 3, none⟩ (.int J a0_3)).setCell ⟨bA, 0, none⟩ (.int J a0_0)).setCell ⟨bA, 1, none⟩ (.int J a0_1)).setCell ⟨bA, 2, none⟩ (.int J a0_2)).setCell ⟨bA, 3, none⟩ (.int J a0_3)).setCell ⟨gA, 2, none⟩ (.int J a2)).setCell ⟨bA, 0, none⟩ (.int J a2)) = w53 at n0_ n1_ n2_ n3_ n4_ ⊢
             have gB := n0_
             have nA := n1_
             have xA := n2_
             have yA := n3_
             have HB := n4_
             clear n0_ n1_ n2_ n3_ n4_
             have n0_ := Za (Kd.R_drew gB.out)
             have n1_ := Za (Xe nA.out)
             have n2_ := Za (Xe xA.out)
             have n3_ := Za (Xe yA.out)
             have n4_ := Za (Xs HB.out)
             clear gB
             clear nA
             clear xA
             clear yA
             clear HB
             have gB := n0_
             have nA := n1_
             have xA := n2_
             have yA := n3_
             have HB := n4_
             clear n0_ n1_ n2_ n3_ n4_
             obtain ⟨Ao55, co55, eo55⟩ := Kd.R_slice gB.out
             (first | subst eo55 | (injection eo55 with f1_ f2_ f3_; have f4_ := f1_.symm; have f5_ := f3_.symm; clear f1_ f2_ f3_; subst f4_; subst f5_))
             have p145 : 0 ≤ (0 : Int) := (by omega)
             have q145 : 0 < (t138.length : Int) := of_decide_eq_true (by first | (with_reducible assumption) | assumption)
             obtain ⟨ad145, e145, hx145_0, hx145_1, hx145_2, hx145_3⟩ := at_T27 (Kd.R_reads' gB.out).2.2 0 p145 q145
             cases e145
             have qi145 : (0 < t138.length) = True := eq_true (by omega)
             (try rw [show ((0 : Int)).toNat = 0 from rfl] at hx145_0)
             (try rw [show 0 * 4 = 0 from rfl] at hx145_0)
             (try rw [Addr.add_zero'] at hx145_0)
             (try rw [show ((0 : Int)).toNat = 0 from rfl] at hx145_1)
             (try rw [show 0 * 4 = 0 from rfl] at hx145_1)
             (try rw [Addr.add_zero'] at hx145_1)
             (try rw [show ((0 : Int)).toNat = 0 from rfl] at hx145_2)
             (try rw [show 0 * 4 = 0 from rfl] at hx145_2)
             (try rw [Addr.add_zero'] at hx145_2)
             (try rw [show ((0 : Int)).toNat = 0 from rfl] at hx145_3)
             (try rw [show 0 * 4 = 0 from rfl] at hx145_3)
             (try rw [Addr.add_zero'] at hx145_3)
             replace p145 := eq_true p145
             replace q145 := eq_true q145
             have p146 : 0 ≤ (1 : Int) := (by omega)
             have q146 : 1 < (t138.length : Int) := of_decide_eq_true (by first | (with_reducible assumption) | assumption)
             obtain ⟨ad146, e146, hx146_0, hx146_1, hx146_2, hx146_3⟩ := at_T27 (Kd.R_reads' gB.out).2.2 1 p146 q146
             obtain rfl : ad145 = ad146 := (by injection e146)
             (try simp only [show (1 : Int).toNat = 1 from rfl, Nat.reduceMul, Nat.reduceEqDiff, Go.Addr.add, ↓reduceIte] at hx146_0)
             (try simp only [show (1 : Int).toNat = 1 from rfl, Nat.reduceMul, Nat.reduceEqDiff, Go.Addr.add, ↓reduceIte] at hx146_1)
             (try simp only [show (1 : Int).toNat = 1 from rfl, Nat.reduceMul, Nat.reduceEqDiff, Go.Addr.add, ↓reduceIte] at hx146_2)
             (try simp only [show (1 : Int).toNat = 1 from rfl, Nat.reduceMul, Nat.reduceEqDiff, Go.Addr.add, ↓reduceIte] at hx146_3)
             have qi146 : (1 < t138.length) = True := eq_true (by omega)
             (try rw [show ((1 : Int)).toNat = 1 from rfl] at hx146_0)
             (try rw [show 1 * 4 = 4 from rfl] at hx146_0)
             (try rw [show ((1 : Int)).toNat = 1 from rfl] at hx146_1)
             (try rw [show 1 * 4 = 4 from rfl] at hx146_1)
             (try rw [show ((1 : Int)).toNat = 1 from rfl] at hx146_2)
             (try rw [show 1 * 4 = 4 from rfl] at hx146_2)
             (try rw [show ((1 : Int)).toNat = 1 from rfl] at hx146_3)
             (try rw [show 1 * 4 = 4 from rfl] at hx146_3)
             replace p146 := eq_true p146
             replace q146 := eq_true q146
             refine start_ (n := 18) (S := fun w' => w'.cell? ⟨gA, 0, none⟩ = some (.int J a0_0) ∧ w'.cell? ⟨gA, 1, none⟩ = some (.int J a0_1) ∧ w'.cell? ⟨gA, 2, none⟩ = some (.int J a2) ∧ w'.cell? ⟨gA, 3, none⟩ = some (.int J a0_3) ∧ w'.cell? ⟨bA, 0, none⟩ = some (.int J a2) ∧ w'.cell? ⟨bA, 1, none⟩ = some (.int J a0_1) ∧ w'.cell? ⟨bA, 2, none⟩ = some (.int J a0_2) ∧ w'.cell? ⟨bA, 3, none⟩ = some (.int J a0_3) ∧ w'.cell? ad145 = some (.int J ((rd_T27 t138 0).f0)) ∧ w'.cell? ⟨ad145.block, ad145.off + 1, none⟩ = some (.int J ((rd_T27 t138 0).f1)) ∧ w'.cell? ⟨ad145.block, ad145.off + 2, none⟩ = some (.int J ((rd_T27 t138 0).f2)) ∧ w'.cell? ⟨ad145.block, ad145.off + 3, none⟩ = some (.int J ((rd_T27 t138 0).f3)) ∧ w'.cell? ⟨ad145.block, ad145.off + 4, none⟩ = some (.int J ((rd_T27 t138 1).f0)) ∧ w'.cell? ⟨ad145.block, ad145.off + 4 + 1, none⟩ = some (.int J ((rd_T27 t138 1).f1)) ∧ w'.cell? ⟨ad145.block, ad145.off + 4 + 2, none⟩ = some (.int J ((rd_T27 t138 1).f2)) ∧ w'.cell? ⟨ad145.block, ad145.off + 4 + 3, none⟩ = some (.int J ((rd_T27 t138 1).f3))) (ds := []) #[Zf,Zf,Zf,Zf,Zf,Zf,Zf,Zf,Zf,Zf,Zf,Zf,Zf,Zf,Zf,Zf,Zf,Zf] (by kernel_rfl) rfl rfl ⟨(Xd xA.out 0).trans rfl, (Xd xA.out 1).trans rfl, (Xd xA.out 2).trans rfl, (Xd xA.out 3).trans rfl, (Xd yA.out 0).trans rfl, (Xd yA.out 1).trans rfl, (Xd yA.out 2).trans rfl, (Xd yA.out 3).trans rfl, hx145_0, hx145_1, hx145_2, hx145_3, hx146_0, hx146_1, hx146_2, hx146_3⟩ (fun hHeld => ?_); refine with_tabW gatherumlaw04_BoxSplits.tab17 gatherumlaw04_BoxSplits.bits17 (fun HT_ HW_ => ?_)
             generalize w53.drew = w54 at gB nA xA yA HB hx145_0 hx145_1 hx145_2 hx145_3 hx146_0 hx146_1 hx146_2 hx146_3 hHeld ⊢
             refine Xo (i := 0) (N := some 61) (v := ?_) (a' := ?_) #[Zt,Zf,Zf,Zf,Zf,Zf,Zf,Zf,Zf,Zf,Zf,Zf,Zf,Zf,Zf,Zf,Zf,Zf] rfl rfl (Xn HT_.out (by kernel_rfl)) (fun _ _ _ h => h) (Or.inl ⟨by rfl, ?_⟩) ?_ ?_
             rotate_left
             ·intro w'
              go_simp
              with_reducible rfl
             rotate_left
             ·simp only [Act.put, Xa, Xb, Xc, Xj, Xk]
              rfl
             refine Xo (i := 1) (N := some 62) (v := ?_) (a' := ?_) #[Zt,Zt,Zf,Zf,Zf,Zf,Zf,Zf,Zf,Zf,Zf,Zf,Zf,Zf,Zf,Zf,Zf,Zf] rfl rfl (Xn HT_.out (by kernel_rfl)) (fun _ _ _ h => h) (Or.inl ⟨by rfl, ?_⟩) ?_ ?_
             rotate_left
             ·intro w'
              go_simp
              with_reducible rfl
             rotate_left
             ·simp only [Act.put, Xa, Xb, Xc, Xj, Xk]
              rfl
             refine Xo (i := 2) (N := some 63) (v := ?_) (a' := ?_) #[Zt,Zt,Zt,Zf,Zf,Zf,Zf,Zf,Zf,Zf,Zf,Zf,Zf,Zf,Zf,Zf,Zf,Zf] rfl rfl (Xn HT_.out (by kernel_rfl)) (fun _ _ _ h => h) (Or.inl ⟨by rfl, ?_⟩) ?_ ?_
             rotate_left
             ·intro w'
              go_simp
              with_reducible rfl
             rotate_left
             ·simp only [Act.put, Xa, Xb, Xc, Xj, Xk]
              rfl
             refine Xo (i := 3) (N := some 64) (v := ?_) (a' := ?_) #[Zt,Zt,Zt,Zt,Zf,Zf,Zf,Zf,Zf,Zf,Zf,Zf,Zf,Zf,Zf,Zf,Zf,Zf] rfl rfl (Xn HT_.out (by kernel_rfl)) (fun _ _ _ h => h) (Or.inl ⟨by rfl, ?_⟩) ?_ ?_
             rotate_left
             ·intro w'
              go_simp
              with_reducible rfl
             rotate_left
             ·simp only [Act.put, Xa, Xb, Xc, Xj, Xk]
              rfl
             refine Xo (i := 4) (N := some 65) (v := ?_) (a' := ?_) #[Zt,Zt,Zt,Zt,Zt,Zf,Zf,Zf,Zf,Zf,Zf,Zf,Zf,Zf,Zf,Zf,Zf,Zf] rfl rfl (Xn HT_.out (by kernel_rfl)) (fun _ _ _ h => h) (Or.inl ⟨by rfl, ?_⟩) ?_ ?_
             rotate_left
             ·intro w'
              go_simp
              with_reducible rfl
             rotate_left
             ·simp only [Act.put, Xa, Xb, Xc, Xj, Xk]
              rfl
             refine Xo (i := 5) (N := some 66) (v := ?_) (a' := ?_) #[Zt,Zt,Zt,Zt,Zt,Zt,Zf,Zf,Zf,Zf,Zf,Zf,Zf,Zf,Zf,Zf,Zf,Zf] rfl rfl (Xn HT_.out (by kernel_rfl)) (fun _ _ _ h => h) (Or.inl ⟨by rfl, ?_⟩) ?_ ?_
             rotate_left
             ·intro w'
              go_simp
              with_reducible rfl
             rotate_left
             ·simp only [Act.put, Xa, Xb, Xc, Xj, Xk]
              rfl
             refine take_ (i := 6) (N := some 67) (v := ?_) (a' := ?_) #[Zt,Zt,Zt,Zt,Zt,Zt,Zt,Zf,Zf,Zf,Zf,Zf,Zf,Zf,Zf,Zf,Zf,Zf] rfl rfl (take_ofW HT_.out HW_.out (by kernel_rfl)) (fun _ _ _ h => h) (Or.inl ⟨by rfl, ?_⟩) hHeld ?_ ?_
             rotate_left
             ·rintro w' ⟨s0, s1, s2, s3, s4, s5, s6, s7, s8, s9, s10, s11, s12, s13, s14, s15⟩
              go_simp
              with_reducible rfl
             rotate_left
             ·simp only [Act.put, Xa, Xb, Xc, Xj, Xk]
              rfl
             refine take_ (i := 7) (N := some 68) (v := ?_) (a' := ?_) #[Zt,Zt,Zt,Zt,Zt,Zt,Zt,Zt,Zf,Zf,Zf,Zf,Zf,Zf,Zf,Zf,Zf,Zf] rfl rfl (take_ofW HT_.out HW_.out (by kernel_rfl)) (fun _ _ _ h => h) (Or.inl ⟨by rfl, ?_⟩) hHeld ?_ ?_
             rotate_left
             ·rintro w' ⟨s0, s1, s2, s3, s4, s5, s6, s7, s8, s9, s10, s11, s12, s13, s14, s15⟩
              go_simp
              with_reducible rfl
             rotate_left
             ·simp only [Act.put, Xa, Xb, Xc, Xj, Xk]
              rfl
             refine Xo (i := 8) (N := some 69) (v := ?_) (a' := ?_) #[Zt,Zt,Zt,Zt,Zt,Zt,Zt,Zt,Zt,Zf,Zf,Zf,Zf,Zf,Zf,Zf,Zf,Zf] rfl rfl (Xn HT_.out (by kernel_rfl)) (fun _ _ _ h => h) (Or.inl ⟨by rfl, ?_⟩) ?_ ?_
             rotate_left
             ·intro w'
              go_simp
              with_reducible rfl
             rotate_left
             ·simp only [Act.put, Xa, Xb, Xc, Xj, Xk]
              rfl
             refine Xo (i := 9) (N := some 70) (v := ?_) (a' := ?_) #[Zt,Zt,Zt,Zt,Zt,Zt,Zt,Zt,Zt,Zt,Zf,Zf,Zf,Zf,Zf,Zf,Zf,Zf] rfl rfl (Xn HT_.out (by kernel_rfl)) (fun _ _ _ h => h) (Or.inl ⟨by rfl, ?_⟩) ?_ ?_
             rotate_left
             ·intro w'
              go_simp
              with_reducible rfl
             rotate_left
             ·simp only [Act.put, Xa, Xb, Xc, Xj, Xk]
              rfl
             refine Xo (i := 10) (N := some 71) (v := ?_) (a' := ?_) #[Zt,Zt,Zt,Zt,Zt,Zt,Zt,Zt,Zt,Zt,Zt,Zf,Zf,Zf,Zf,Zf,Zf,Zf] rfl rfl (Xn HT_.out (by kernel_rfl)) (fun _ _ _ h => h) (Or.inl ⟨by rfl, ?_⟩) ?_ ?_
             rotate_left
             ·intro w'
              go_simp
              with_reducible rfl
             rotate_left
             ·simp only [Act.put, Xa, Xb, Xc, Xj, Xk]
              rfl
             refine Xo (i := 11) (N := some 72) (v := ?_) (a' := ?_) #[Zt,Zt,Zt,Zt,Zt,Zt,Zt,Zt,Zt,Zt,Zt,Zt,Zf,Zf,Zf,Zf,Zf,Zf] rfl rfl (Xn HT_.out (by kernel_rfl)) (fun _ _ _ h => h) (Or.inl ⟨by rfl, ?_⟩) ?_ ?_
             rotate_left
             ·intro w'
              go_simp
              with_reducible rfl
             rotate_left
             ·simp only [Act.put, Xa, Xb, Xc, Xj, Xk]
              rfl
             refine Xo (i := 12) (N := some 73) (v := ?_) (a' := ?_) #[Zt,Zt,Zt,Zt,Zt,Zt,Zt,Zt,Zt,Zt,Zt,Zt,Zt,Zf,Zf,Zf,Zf,Zf] rfl rfl (Xn HT_.out (by kernel_rfl)) (fun _ _ _ h => h) (Or.inl ⟨by rfl, ?_⟩) ?_ ?_
             rotate_left
             ·intro w'
              go_simp
              with_reducible rfl
             rotate_left
             ·simp only [Act.put, Xa, Xb, Xc, Xj, Xk]
              rfl
             refine take_ (i := 13) (N := some 74) (v := ?_) (a' := ?_) #[Zt,Zt,Zt,Zt,Zt,Zt,Zt,Zt,Zt,Zt,Zt,Zt,Zt,Zt,Zf,Zf,Zf,Zf] rfl rfl (take_ofW HT_.out HW_.out (by kernel_rfl)) (fun _ _ _ h => h) (Or.inl ⟨by rfl, ?_⟩) hHeld ?_ ?_
             rotate_left
             ·rintro w' ⟨s0, s1, s2, s3, s4, s5, s6, s7, s8, s9, s10, s11, s12, s13, s14, s15⟩
              go_simp
              with_reducible rfl
             rotate_left
             ·simp only [Act.put, Xa, Xb, Xc, Xj, Xk]
              rfl
             refine take_ (i := 14) (N := some 75) (v := ?_) (a' := ?_) #[Zt,Zt,Zt,Zt,Zt,Zt,Zt,Zt,Zt,Zt,Zt,Zt,Zt,Zt,Zt,Zf,Zf,Zf] rfl rfl (take_ofW HT_.out HW_.out (by kernel_rfl)) (fun _ _ _ h => h) (Or.inl ⟨by rfl, ?_⟩) hHeld ?_ ?_
             rotate_left
             ·rintro w' ⟨s0, s1, s2, s3, s4, s5, s6, s7, s8, s9, s10, s11, s12, s13, s14, s15⟩
              go_simp
              with_reducible rfl
             rotate_left
             ·simp only [Act.put, Xa, Xb, Xc, Xj, Xk]
              rfl
             refine Xo (i := 15) (N := some 76) (v := ?_) (a' := ?_) #[Zt,Zt,Zt,Zt,Zt,Zt,Zt,Zt,Zt,Zt,Zt,Zt,Zt,Zt,Zt,Zt,Zf,Zf] rfl rfl (Xn HT_.out (by kernel_rfl)) (fun _ _ _ h => h) (Or.inl ⟨by rfl, ?_⟩) ?_ ?_
             rotate_left
             ·intro w'
              go_simp
              with_reducible rfl
             rotate_left
             ·simp only [Act.put, Xa, Xb, Xc, Xj, Xk]
              rfl
             refine Xo (i := 16) (N := some 77) (v := ?_) (a' := ?_) #[Zt,Zt,Zt,Zt,Zt,Zt,Zt,Zt,Zt,Zt,Zt,Zt,Zt,Zt,Zt,Zt,Zt,Zf] rfl rfl (Xn HT_.out (by kernel_rfl)) (fun _ _ _ h => h) (Or.inl ⟨by rfl, ?_⟩) ?_ ?_
             rotate_left
             ·intro w'
              go_simp
              with_reducible rfl
             rotate_left
             ·simp only [Act.put, Xa, Xb, Xc, Xj, Xk]
              rfl
             refine Xo (i := 17) (N := some 6) (v := ?_) (a' := ?_) #[Zt,Zt,Zt,Zt,Zt,Zt,Zt,Zt,Zt,Zt,Zt,Zt,Zt,Zt,Zt,Zt,Zt,Zt] rfl rfl (Xn HT_.out (by kernel_rfl)) (fun _ _ _ h => h) (Or.inl ⟨by rfl, ?_⟩) ?_ ?_
             rotate_left
             ·intro w'
              go_simp
              with_reducible rfl
             rotate_left
             ·simp only [Act.put, Xa, Xb, Xc, Xj, Xk]
              rfl
             refine done_ (done_of HT_.out (by kernel_rfl)) ?_
             try go_wp2
             go_ret
             exact ⟨by first | rfl | (simp [errW_none, errW_some] <;> rfl) | (simp [*, errW_none, errW_some] <;> rfl), by repeat (first | (with_reducible first | exact HB.out | apply below_alloc | apply Xw | apply Xs | refine Xt ?_ yB.out | refine Xt ?_ uB.out | refine Xt ?_ eB.out) | exact HB.out)⟩
            ·rw [if_neg c35] at H
             exact absurd H (by simp)
           ·rw [if_neg c34] at H
            have c34b0 : (((rd_T27 t138 0).f0) == a0_0 && (((rd_T27 t138 0).f1) == a0_1 && (((rd_T27 t138 0).f2) == a2 && (((rd_T27 t138 0).f3) == a0_3)))) = Zf := by simpa using c34
            (try (have c34b1 : decide (((rd_T27 t138 0).f0) = a0_0 && (((rd_T27 t138 0).f1) == a0_1 && (((rd_T27 t138 0).f2) == a2 && (((rd_T27 t138 0).f3) == a0_3)))) = Zf := by simpa using c34))
            (try (have c34b2 : (((rd_T27 t138 0).f0) == a0_0 && (((rd_T27 t138 0).f1) == a0_1 && (((rd_T27 t138 0).f2) == a2 && (((rd_T27 t138 0).f3) == a0_3)))) = Zf := by simpa using c34))
            (try (have c34b3 : ¬ (((rd_T27 t138 0).f0) = a0_0 && (((rd_T27 t138 0).f1) == a0_1 && (((rd_T27 t138 0).f2) == a2 && (((rd_T27 t138 0).f3) == a0_3)))) := by simpa using c34))
            clear c34
            obtain rfl := Option.some.inj H
            try go_wp2
            have n0_ := Za (Kd.R_drew gB.out)
            have n1_ := Za (Xe nA.out)
            have n2_ := Za (Xs HB.out)
            clear gB
            clear nA
            clear HB
            have gB := n0_
            have nA := n1_
            have HB := n2_
            clear n0_ n1_ n2_
            refine start_ (n := 6) (S := fun w' => w'.cell? ⟨vA, 0, none⟩ = some (.int J a0_0) ∧ w'.cell? ⟨vA, 1, none⟩ = some (.int J a0_1) ∧ w'.cell? ⟨vA, 2, none⟩ = some (.int J a0_2) ∧ w'.cell? ⟨vA, 3, none⟩ = some (.int J a0_3)) (ds := []) #[Zf,Zf,Zf,Zf,Zf,Zf] (by kernel_rfl) rfl rfl ⟨(Xd nA.out 0).trans rfl, (Xd nA.out 1).trans rfl, (Xd nA.out 2).trans rfl, (Xd nA.out 3).trans rfl⟩ (fun hHeld => ?_)
            generalize wc.drew = w56 at gB nA HB hHeld ⊢
            refine take_ (i := 0) (N := some 50) (v := ?_) (a' := ?_) #[Zt,Zf,Zf,Zf,Zf,Zf] rfl rfl (by kernel_rfl) (fun _ _ _ h => h) (Or.inl ⟨by rfl, ?_⟩) hHeld ?_ ?_
            rotate_left
            ·rintro w' ⟨s0, s1, s2, s3⟩
             go_simp
             with_reducible rfl
            rotate_left
            ·simp only [Act.put, Xa, Xb, Xc, Xj, Xk]
             rfl
            refine take_ (i := 1) (N := some 51) (v := ?_) (a' := ?_) #[Zt,Zt,Zf,Zf,Zf,Zf] rfl rfl (by kernel_rfl) (fun _ _ _ h => h) (Or.inl ⟨by rfl, ?_⟩) hHeld ?_ ?_
            rotate_left
            ·rintro w' ⟨s0, s1, s2, s3⟩
             go_simp
             with_reducible rfl
            rotate_left
            ·simp only [Act.put, Xa, Xb, Xc, Xj, Xk]
             rfl
            refine join_ (σ := Nat × Nat) 2 #[Zt,Zt,Zt,Zt,Zf,Zf] (fun s_ => [(10, .pointer (some ⟨s_.1, 0, none⟩)), (11, .pointer (some ⟨s_.2, 0, none⟩))]) (fun s_ w' => (w'.cell? ⟨vA, 0, none⟩ = some (.int J a0_0) ∧ w'.cell? ⟨vA, 1, none⟩ = some (.int J a0_1) ∧ w'.cell? ⟨vA, 2, none⟩ = some (.int J a0_2) ∧ w'.cell? ⟨vA, 3, none⟩ = some (.int J a0_3)) ∧ (Kd.R k27 27 w' w.heap.size (fun k_ => k_ ≠ vA ∧ k_ ≠ s_.1 ∧ k_ ≠ s_.2) v139 t138) ∧ (w'.heap[vA]? = some (.cells #[.int J a0_0, .int J a0_1, .int J a0_2, .int J a0_3] 27 (0, 0))) ∧ (w'.heap[s_.1]? = some (.cells #[.int J 0, .int J 0, .int J 0, .int J 0] 27 (0, 0))) ∧ (w'.heap[s_.2]? = some (.cells #[.int J 0, .int J 0, .int J 0, .int J 0] 27 (0, 0))) ∧ (w.heap.size ≤ s_.1) ∧ (w.heap.size ≤ s_.1) ∧ (vA ≠ s_.1) ∧ (s_.1 ≠ vA) ∧ (s_.2 ≠ s_.1) ∧ (s_.1 ≠ s_.2) ∧ (w.heap.size ≤ s_.2) ∧ (w.heap.size ≤ s_.2) ∧ (vA ≠ s_.2) ∧ (s_.2 ≠ vA) ∧ (Below w.heap.size w w')) ?_ ?_
            rotate_left
            ·intro hCont
             refine two_ (i := 2) (j := 3) (Ni := some 10) (Nj := some 11) #[Zt,Zt,Zt,Zf,Zf,Zf] #[Zt,Zt,Zf,Zt,Zf,Zf] rfl rfl rfl rfl (by kernel_rfl) (by decide) (by decide) (fun K hK => ?_) (fun K hK => ?_)
             ·skip
              refine box_step ?hg (N := 10) ?hd (cs := #[.int J 0, .int J 0, .int J 0, .int J 0]) (t := 27) ?hr ?_; (case hd => rfl); (case hg => rfl); (case hr => first | (go_simp; done) | (go_simp; rfl))
              intro gA hg w57 hbox hb
              have n0_ := Za (Kd.R_below (Kd.R_elderB (by (with_reducible repeat (first | apply Kd.R_alloc | apply Kd.R_drewN | apply Kd.R_drew)); exact gB.out) gA (Nat.le_of_eq hg.symm)) hb)
              have n1_ := Za (Xu (g := vA) (o := .cells #[.int J a0_0, .int J a0_1, .int J a0_2, .int J a0_3] 27 (0, 0)) (bb_5 nA.out) hb)
              have n2_ := Za (Xv (hb_5 HB.out) hb)
              have n3_ := Za (hbox)
              have n4_ := Za ((by rw [hg]; exact (Xp (hb_5 HB.out)) : w.heap.size ≤ gA))
              have n5_ := Za ((by rw [hg]; exact (Xp (hb_5 HB.out)) : w.heap.size ≤ gA))
              have n6_ := Za ((by rw [hg]; exact Nat.ne_of_lt (Xq (g := vA) (o := .cells #[.int J a0_0, .int J a0_1, .int J a0_2, .int J a0_3] 27 (0, 0)) (bb_5 nA.out)) : vA ≠ gA))
              have n7_ := Za ((by rw [hg]; exact Nat.ne_of_gt (Xq (g := vA) (o := .cells #[.int J a0_0, .int J a0_1, .int J a0_2, .int J a0_3] 27 (0, 0)) (bb_5 nA.out)) : gA ≠ vA))
              clear gB
              clear nA
              clear HB
              have gB := n0_
              have nA := n1_
              have HB := n2_
              have xA := n3_
              have vB := n4_
              have uB := n5_
              have uA := n6_
              have bB := n7_
              clear n0_ n1_ n2_ n3_ n4_ n5_ n6_ n7_
              clear hb hbox hg
              refine hK.out _ _ ⟨(Xd nA.out 0).trans rfl, (Xd nA.out 1).trans rfl, (Xd nA.out 2).trans rfl, (Xd nA.out 3).trans rfl⟩ (fun hHeld => ?_)
              clear hK K
              refine norm_ (a' := ?_) ?_ ?_
              rotate_left
              ·show Act.put _ (some 10) _ = _
               simp only [Act.put, Xa, Xb, Xc, Xj, Xk]
               rfl
              refine one_ (i := 3) (N := some 11) #[Zt,Zt,Zt,Zt,Zf,Zf] rfl rfl (by kernel_rfl) (by decide) (fun K hK => ?_)
              refine box_step ?hg (N := 11) ?hd (cs := #[.int J 0, .int J 0, .int J 0, .int J 0]) (t := 27) ?hr ?_; (case hd => rfl); (case hg => rfl); (case hr => first | (go_simp; done) | (go_simp; rfl))
              intro bA hg w58 hbox hb
              have n0_ := Za (Kd.R_below (Kd.R_elderB (by (with_reducible repeat (first | apply Kd.R_alloc | apply Kd.R_drewN | apply Kd.R_drew)); exact gB.out) bA (Nat.le_of_eq hg.symm)) hb)
              have n1_ := Za (Xu (g := vA) (o := .cells #[.int J a0_0, .int J a0_1, .int J a0_2, .int J a0_3] 27 (0, 0)) (bb_5 nA.out) hb)
              have n2_ := Za (Xu (g := gA) (o := .cells #[.int J 0, .int J 0, .int J 0, .int J 0] 27 (0, 0)) (bb_5 xA.out) hb)
              have n3_ := Za (Xv (hb_5 HB.out) hb)
              have n4_ := Za (hbox)
              have n5_ := Za ((by rw [hg]; exact (Xp (hb_5 HB.out)) : w.heap.size ≤ bA))
              have n6_ := Za ((by rw [hg]; exact (Xp (hb_5 HB.out)) : w.heap.size ≤ bA))
              have n7_ := Za ((by rw [hg]; exact Nat.ne_of_lt (Xq (g := vA) (o := .cells #[.int J a0_0, .int J a0_1, .int J a0_2, .int J a0_3] 27 (0, 0)) (bb_5 nA.out)) : vA ≠ bA))
              have n8_ := Za ((by rw [hg]; exact Nat.ne_of_gt (Xq (g := vA) (o := .cells #[.int J a0_0, .int J a0_1, .int J a0_2, .int J a0_3] 27 (0, 0)) (bb_5 nA.out)) : bA ≠ vA))
              have n9_ := Za ((by rw [hg]; exact Nat.ne_of_lt (Xq (g := gA) (o := .cells #[.int J 0, .int J 0, .int J 0, .int J 0] 27 (0, 0)) (bb_5 xA.out)) : gA ≠ bA))
              have n10_ := Za ((by rw [hg]; exact Nat.ne_of_gt (Xq (g := gA) (o := .cells #[.int J 0, .int J 0, .int J 0, .int J 0] 27 (0, 0)) (bb_5 xA.out)) : bA ≠ gA))
              clear gB
              clear nA
              clear xA
              clear HB
              have gB := n0_
              have nA := n1_
              have xA := n2_
              have HB := n3_
              have yA := n4_
              have xB := n5_
              have eB := n6_
              have eA := n7_
              have nB := n8_
              have zA := n9_
              have qA := n10_
              clear n0_ n1_ n2_ n3_ n4_ n5_ n6_ n7_ n8_ n9_ n10_
              clear hb hbox hg
              refine hK.out _ _ ⟨(Xd nA.out 0).trans rfl, (Xd nA.out 1).trans rfl, (Xd nA.out 2).trans rfl, (Xd nA.out 3).trans rfl⟩ (fun hHeld => ?_)
              clear hK K
              refine norm_ (a' := ?_) ?_ ?_
              rotate_left
              ·show Act.put _ (some 11) _ = _
               simp only [Act.put, Xa, Xb, Xc, Xj, Xk]
               rfl
              exact norm_ (by simp only [putAll, Act.put, Xa, Xb, Xc]) (hCont (gA, bA) _ ⟨hHeld, (by (with_reducible repeat (first | apply Kd.R_alloc | apply Kd.R_drewN | apply Kd.R_drew)); exact Kd.R_mono gB.out (fun _ hk => ⟨hk.1.1, ⟨hk.1.2, hk.2⟩⟩)), (bb_5 nA.out), (bb_5 xA.out), (bb_5 yA.out), vB.out, uB.out, uA.out, bB.out, qA.out, zA.out, xB.out, eB.out, eA.out, nB.out, (hb_5 HB.out)⟩)
             ·skip
              refine box_step ?hg (N := 11) ?hd (cs := #[.int J 0, .int J 0, .int J 0, .int J 0]) (t := 27) ?hr ?_; (case hd => rfl); (case hg => rfl); (case hr => first | (go_simp; done) | (go_simp; rfl))
              intro bA hg w57 hbox hb
              have n0_ := Za (Kd.R_below (Kd.R_elderB (by (with_reducible repeat (first | apply Kd.R_alloc | apply Kd.R_drewN | apply Kd.R_drew)); exact gB.out) bA (Nat.le_of_eq hg.symm)) hb)
              have n1_ := Za (Xu (g := vA) (o := .cells #[.int J a0_0, .int J a0_1, .int J a0_2, .int J a0_3] 27 (0, 0)) (bb_5 nA.out) hb)
              have n2_ := Za (Xv (hb_5 HB.out) hb)
              have n3_ := Za (hbox)
              have n4_ := Za ((by rw [hg]; exact (Xp (hb_5 HB.out)) : w.heap.size ≤ bA))
              have n5_ := Za ((by rw [hg]; exact (Xp (hb_5 HB.out)) : w.heap.size ≤ bA))
              have n6_ := Za ((by rw [hg]; exact Nat.ne_of_lt (Xq (g := vA) (o := .cells #[.int J a0_0, .int J a0_1, .int J a0_2, .int J a0_3] 27 (0, 0)) (bb_5 nA.out)) : vA ≠ bA))
              have n7_ := Za ((by rw [hg]; exact Nat.ne_of_gt (Xq (g := vA) (o := .cells #[.int J a0_0, .int J a0_1, .int J a0_2, .int J a0_3] 27 (0, 0)) (bb_5 nA.out)) : bA ≠ vA))
              clear gB
              clear nA
              clear HB
              have gB := n0_
              have nA := n1_
              have HB := n2_
              have yA := n3_
              have xB := n4_
              have eB := n5_
              have eA := n6_
              have nB := n7_
              clear n0_ n1_ n2_ n3_ n4_ n5_ n6_ n7_
              clear hb hbox hg
              refine hK.out _ _ ⟨(Xd nA.out 0).trans rfl, (Xd nA.out 1).trans rfl, (Xd nA.out 2).trans rfl, (Xd nA.out 3).trans rfl⟩ (fun hHeld => ?_)
              clear hK K
              refine norm_ (a' := ?_) ?_ ?_
              rotate_left
              ·show Act.put _ (some 11) _ = _
               simp only [Act.put, Xa, Xb, Xc, Xj, Xk]
               rfl
              refine one_ (i := 2) (N := some 10) #[Zt,Zt,Zt,Zt,Zf,Zf] rfl rfl (by kernel_rfl) (by decide) (fun K hK => ?_)
              refine box_step ?hg (N := 10) ?hd (cs := #[.int J 0, .int J 0, .int J 0, .int J 0]) (t := 27) ?hr ?_; (case hd => rfl); (case hg => rfl); (case hr => first | (go_simp; done) | (go_simp; rfl))
              intro gA hg w58 hbox hb
              have n0_ := Za (Kd.R_below (Kd.R_elderB (by (with_reducible repeat (first | apply Kd.R_alloc | apply Kd.R_drewN | apply Kd.R_drew)); exact gB.out) gA (Nat.le_of_eq hg.symm)) hb)
              have n1_ := Za (Xu (g := vA) (o := .cells #[.int J a0_0, .int J a0_1, .int J a0_2, .int J a0_3] 27 (0, 0)) (bb_5 nA.out) hb)
              have n2_ := Za (Xu (g := bA) (o := .cells #[.int J 0, .int J 0, .int J 0, .int J 0] 27 (0, 0)) (bb_5 yA.out) hb)
              have n3_ := Za (Xv (hb_5 HB.out) hb)
              have n4_ := Za (hbox)
              have n5_ := Za ((by rw [hg]; exact (Xp (hb_5 HB.out)) : w.heap.size ≤ gA))
              have n6_ := Za ((by rw [hg]; exact (Xp (hb_5 HB.out)) : w.heap.size ≤ gA))
              have n7_ := Za ((by rw [hg]; exact Nat.ne_of_lt (Xq (g := vA) (o := .cells #[.int J a0_0, .int J a0_1, .int J a0_2, .int J a0_3] 27 (0, 0)) (bb_5 nA.out)) : vA ≠ gA))
              have n8_ := Za ((by rw [hg]; exact Nat.ne_of_gt (Xq (g := vA) (o := .cells #[.int J a0_0, .int J a0_1, .int J a0_2, .int J a0_3] 27 (0, 0)) (bb_5 nA.out)) : gA ≠ vA))
              have n9_ := Za ((by rw [hg]; exact Nat.ne_of_lt (Xq (g := bA) (o := .cells #[.int J 0, .int J 0, .int J 0, .int J 0] 27 (0, 0)) (bb_5 yA.out)) : bA ≠ gA))
              have n10_ := Za ((by rw [hg]; exact Nat.ne_of_gt (Xq (g := bA) (o := .cells #[.int J 0, .int J 0, .int J 0, .int J 0] 27 (0, 0)) (bb_5 yA.out)) : gA ≠ bA))
              clear gB
              clear nA
              clear yA
              clear HB
              have gB := n0_
              have nA := n1_
              have yA := n2_
              have HB := n3_
              have xA := n4_
              have vB := n5_
              have uB := n6_
              have uA := n7_
              have bB := n8_
              have qA := n9_
              have zA := n10_
              clear n0_ n1_ n2_ n3_ n4_ n5_ n6_ n7_ n8_ n9_ n10_
              clear hb hbox hg
              refine hK.out _ _ ⟨(Xd nA.out 0).trans rfl, (Xd nA.out 1).trans rfl, (Xd nA.out 2).trans rfl, (Xd nA.out 3).trans rfl⟩ (fun hHeld => ?_)
              clear hK K
              refine norm_ (a' := ?_) ?_ ?_
              rotate_left
              ·show Act.put _ (some 10) _ = _
               simp only [Act.put, Xa, Xb, Xc, Xj, Xk]
               rfl
              exact norm_ (by simp only [putAll, Act.put, Xa, Xb, Xc]) (hCont (gA, bA) _ ⟨hHeld, (by (with_reducible repeat (first | apply Kd.R_alloc | apply Kd.R_drewN | apply Kd.R_drew)); exact Kd.R_mono gB.out (fun _ hk => ⟨hk.1.1, ⟨hk.2, hk.1.2⟩⟩)), (bb_5 nA.out), (bb_5 xA.out), (bb_5 yA.out), vB.out, uB.out, uA.out, bB.out, qA.out, zA.out, xB.out, eB.out, eA.out, nB.out, (hb_5 HB.out)⟩)
            rintro ⟨gA, bA⟩ w59 ⟨hS_, h0_, h1_, h2_, h3_, h4_, h5_, h6_, h7_, h8_, h9_, h10_, h11_, h12_, h13_, h14_⟩
            have n0_ : Xm (Kd.R k27 27 w59 w.heap.size (fun k_ => k_ ≠ vA ∧ k_ ≠ gA ∧ k_ ≠ bA) v139 t138) := ⟨h0_⟩
            have n1_ : Xm (w59.heap[vA]? = some (.cells #[.int J a0_0, .int J a0_1, .int J a0_2, .int J a0_3] 27 (0, 0))) := ⟨h1_⟩
            have n2_ : Xm (w59.heap[gA]? = some (.cells #[.int J 0, .int J 0, .int J 0, .int J 0] 27 (0, 0))) := ⟨h2_⟩
            have n3_ : Xm (w59.heap[bA]? = some (.cells #[.int J 0, .int J 0, .int J 0, .int J 0] 27 (0, 0))) := ⟨h3_⟩
            have n4_ : Xm (w.heap.size ≤ gA) := ⟨h4_⟩
            have n5_ : Xm (w.heap.size ≤ gA) := ⟨h5_⟩
            have n6_ : Xm (vA ≠ gA) := ⟨h6_⟩
            have n7_ : Xm (gA ≠ vA) := ⟨h7_⟩
            have n8_ : Xm (bA ≠ gA) := ⟨h8_⟩
            have n9_ : Xm (gA ≠ bA) := ⟨h9_⟩
            have n10_ : Xm (w.heap.size ≤ bA) := ⟨h10_⟩
            have n11_ : Xm (w.heap.size ≤ bA) := ⟨h11_⟩
            have n12_ : Xm (vA ≠ bA) := ⟨h12_⟩
            have n13_ : Xm (bA ≠ vA) := ⟨h13_⟩
            have n14_ : Xm (Below w.heap.size w w59) := ⟨h14_⟩
            clear gB
            clear nA
            clear HB
            clear h0_ h1_ h2_ h3_ h4_ h5_ h6_ h7_ h8_ h9_ h10_ h11_ h12_ h13_ h14_
            have gB := n0_
            have nA := n1_
            have xA := n2_
            have yA := n3_
            have vB := n4_
            have uB := n5_
            have uA := n6_
            have bB := n7_
            have qA := n8_
            have zA := n9_
            have xB := n10_
            have eB := n11_
            have eA := n12_
            have nB := n13_
            have HB := n14_
            clear n0_ n1_ n2_ n3_ n4_ n5_ n6_ n7_ n8_ n9_ n10_ n11_ n12_ n13_ n14_
            have hHeld : w59.cell? ⟨vA, 0, none⟩ = some (.int J a0_0) ∧ w59.cell? ⟨vA, 1, none⟩ = some (.int J a0_1) ∧ w59.cell? ⟨vA, 2, none⟩ = some (.int J a0_2) ∧ w59.cell? ⟨vA, 3, none⟩ = some (.int J a0_3) := hS_
            refine norm_ (a' := ?_) ?_ ?_
            rotate_left
            ·simp only [putAll, Act.put, Xa, Xb, Xc]
             rfl
            refine one_ (i := 4) (N := none) #[Zt,Zt,Zt,Zt,Zt,Zf] rfl rfl (by kernel_rfl) (by decide) (fun K hK => ?_)
            have hs60 : w59.cell? ⟨gA, 0, none⟩ = some (.int J 0) := (Xd xA.out 0).trans rfl
            have hfs60 := Xi xA.out 0
            have hns60_0 := uA.out
            have hns60_2 := qA.out
            have hms60_0 := bB.out
            have hms60_2 := zA.out
            have hs61 : w59.cell? ⟨gA, 1, none⟩ = some (.int J 0) := (Xd xA.out 1).trans rfl
            have hfs61 := Xi xA.out 1
            have hns61_0 := uA.out
            have hns61_2 := qA.out
            have hms61_0 := bB.out
            have hms61_2 := zA.out
            have hs62 : w59.cell? ⟨gA, 2, none⟩ = some (.int J 0) := (Xd xA.out 2).trans rfl
            have hfs62 := Xi xA.out 2
            have hns62_0 := uA.out
            have hns62_2 := qA.out
            have hms62_0 := bB.out
            have hms62_2 := zA.out
            have hs63 : w59.cell? ⟨gA, 3, none⟩ = some (.int J 0) := (Xd xA.out 3).trans rfl
            have hfs63 := Xi xA.out 3
            have hns63_0 := uA.out
            have hns63_2 := qA.out
            have hms63_0 := bB.out
            have hms63_2 := zA.out
            refine skip_ (w1 := ?_) (by rfl) rfl ?_ ?_
            rotate_left
            ·go_simp
             rfl
            refine hK.out _ _ ⟨((Xh (p := ⟨gA, _, none⟩) uA.out _).trans (((Xh (p := ⟨gA, _, none⟩) uA.out _).trans (((Xh (p := ⟨gA, _, none⟩) uA.out _).trans (((Xh (p := ⟨gA, _, none⟩) uA.out _).trans (hHeld.1)))))))), ((Xh (p := ⟨gA, _, none⟩) uA.out _).trans (((Xh (p := ⟨gA, _, none⟩) uA.out _).trans (((Xh (p := ⟨gA, _, none⟩) uA.out _).trans (((Xh (p := ⟨gA, _, none⟩) uA.out _).trans (hHeld.2.1)))))))), ((Xh (p := ⟨gA, _, none⟩) uA.out _).trans (((Xh (p := ⟨gA, _, none⟩) uA.out _).trans (((Xh (p := ⟨gA, _, none⟩) uA.out _).trans (((Xh (p := ⟨gA, _, none⟩) uA.out _).trans (hHeld.2.2.1)))))))), ((Xh (p := ⟨gA, _, none⟩) uA.out _).trans (((Xh (p := ⟨gA, _, none⟩) uA.out _).trans (((Xh (p := ⟨gA, _, none⟩) uA.out _).trans (((Xh (p := ⟨gA, _, none⟩) uA.out _).trans (hHeld.2.2.2))))))))⟩ (fun hHeld => ?_)
            clear hK K
            refine one_ (i := 5) (N := none) #[Zt,Zt,Zt,Zt,Zt,Zt] rfl rfl (by kernel_rfl) (by decide) (fun K hK => ?_)
            have hs64 : w59.cell? ⟨bA, 0, none⟩ = some (.int J 0) := (Xd yA.out 0).trans rfl
            have hfs64 := Xi yA.out 0
            have hns64_0 := eA.out
            have hns64_1 := zA.out
            have hms64_0 := nB.out
            have hms64_1 := qA.out
            have hs65 : w59.cell? ⟨bA, 1, none⟩ = some (.int J 0) := (Xd yA.out 1).trans rfl
            have hfs65 := Xi yA.out 1
            have hns65_0 := eA.out
            have hns65_1 := zA.out
            have hms65_0 := nB.out
            have hms65_1 := qA.out
            have hs66 : w59.cell? ⟨bA, 2, none⟩ = some (.int J 0) := (Xd yA.out 2).trans rfl
            have hfs66 := Xi yA.out 2
            have hns66_0 := eA.out
            have hns66_1 := zA.out
            have hms66_0 := nB.out
            have hms66_1 := qA.out
            have hs67 : w59.cell? ⟨bA, 3, none⟩ = some (.int J 0) := (Xd yA.out 3).trans rfl
            have hfs67 := Xi yA.out 3
            have hns67_0 := eA.out
            have hns67_1 := zA.out
            have hms67_0 := nB.out
            have hms67_1 := qA.out
            refine skip_ (w1 := ?_) (by rfl) rfl ?_ ?_
            rotate_left
            ·go_simp
             rfl
            refine hK.out _ _ ⟨((Xh (p := ⟨bA, _, none⟩) eA.out _).trans (((Xh (p := ⟨bA, _, none⟩) eA.out _).trans (((Xh (p := ⟨bA, _, none⟩) eA.out _).trans (((Xh (p := ⟨bA, _, none⟩) eA.out _).trans (hHeld.1)))))))), ((Xh (p := ⟨bA, _, none⟩) eA.out _).trans (((Xh (p := ⟨bA, _, none⟩) eA.out _).trans (((Xh (p := ⟨bA, _, none⟩) eA.out _).trans (((Xh (p := ⟨bA, _, none⟩) eA.out _).trans (hHeld.2.1)))))))), ((Xh (p := ⟨bA, _, none⟩) eA.out _).trans (((Xh (p := ⟨bA, _, none⟩) eA.out _).trans (((Xh (p := ⟨bA, _, none⟩) eA.out _).trans (((Xh (p := ⟨bA, _, none⟩) eA.out _).trans (hHeld.2.2.1)))))))), ((Xh (p := ⟨bA, _, none⟩) eA.out _).trans (((Xh (p := ⟨bA, _, none⟩) eA.out _).trans (((Xh (p := ⟨bA, _, none⟩) eA.out _).trans (((Xh (p := ⟨bA, _, none⟩) eA.out _).trans (hHeld.2.2.2))))))))⟩ (fun hHeld => ?_)
            clear hK K
            refine done_ (by kernel_rfl) ?_
            have hnb68 := bB.out
            have hnc68 := uA.out
            have hnb69 := zA.out
            have hnc69 := qA.out
            have hcz70_0 : w59.cell? ⟨gA, 0, none⟩ = some (.int J 0) := (Xd xA.out 0).trans rfl
            have hcz70_1 : w59.cell? ⟨gA, 1, none⟩ = some (.int J 0) := (Xd xA.out 1).trans rfl
            have hcz70_2 : w59.cell? ⟨gA, 2, none⟩ = some (.int J 0) := (Xd xA.out 2).trans rfl
            have hcz70_3 : w59.cell? ⟨gA, 3, none⟩ = some (.int J 0) := (Xd xA.out 3).trans rfl
            have hfz70_0 := Xi xA.out 0
            have hfz70_1 := Xi xA.out 1
            have hfz70_2 := Xi xA.out 2
            have hfz70_3 := Xi xA.out 3
            have hnb71 := nB.out
            have hnc71 := eA.out
            have hcz72_0 : w59.cell? ⟨bA, 0, none⟩ = some (.int J 0) := (Xd yA.out 0).trans rfl
            have hcz72_1 : w59.cell? ⟨bA, 1, none⟩ = some (.int J 0) := (Xd yA.out 1).trans rfl
            have hcz72_2 : w59.cell? ⟨bA, 2, none⟩ = some (.int J 0) := (Xd yA.out 2).trans rfl
            have hcz72_3 : w59.cell? ⟨bA, 3, none⟩ = some (.int J 0) := (Xd yA.out 3).trans rfl
            have hfz72_0 := Xi yA.out 0
            have hfz72_1 := Xi yA.out 1
            have hfz72_2 := Xi yA.out 2
            have hfz72_3 := Xi yA.out 3
            try go_wp2
            have n0_ : Xm (Kd.R k27 27 ((((((((((w59.setCell ⟨gA, 0, none⟩ (.int J a0_0)).setCell ⟨gA, 1, none⟩ (.int J a0_1)).setCell ⟨gA, 2, none⟩ (.int J a0_2)).setCell ⟨gA, 3, none⟩ (.int J a0_3)).setCell ⟨bA, 0, none⟩ (.int J a0_0)).setCell ⟨bA, 1, none⟩ (.int J a0_1)).setCell ⟨bA, 2, none⟩ (.int J a0_2)).setCell ⟨bA, 3, none⟩ (.int J a0_3)).setCell ⟨gA, 2, none⟩ (.int J a2)).setCell ⟨bA, 0, none⟩ (.int J a2)) w.heap.size (fun k_ => k_ ≠ vA ∧ k_ ≠ gA ∧ k_ ≠ bA) v139 t138) := ⟨by (with_reducible repeat (first | apply Kd.R_alloc | apply Kd.R_drewN | apply Kd.R_drew)); exact Kd.R_mono (Kd.R_far (p := ⟨bA, 0, none⟩) (Kd.R_far (p := ⟨gA, 2, none⟩) (Kd.R_far (p := ⟨bA, 3, none⟩) (Kd.R_far (p := ⟨bA, 2, none⟩) (Kd.R_far (p := ⟨bA, 1, none⟩) (Kd.R_far (p := ⟨bA, 0, none⟩) (Kd.R_far (p := ⟨gA, 3, none⟩) (Kd.R_far (p := ⟨gA, 2, none⟩) (Kd.R_far (p := ⟨gA, 1, none⟩) (Kd.R_far (p := ⟨gA, 0, none⟩) (Kd.R_mono (Kd.R_mono gB.out (fun k_ hk => (⟨hk, hk.2.1⟩ : _ ∧ k_ ≠ gA))) (fun k_ hk => (⟨hk, hk.1.2.2⟩ : _ ∧ k_ ≠ bA))) (fun _ hk => hk.1.2) (.int J a0_0)) (fun _ hk => hk.1.2) (.int J a0_1)) (fun _ hk => hk.1.2) (.int J a0_2)) (fun _ hk => hk.1.2) (.int J a0_3)) (fun _ hk => hk.2) (.int J a0_0)) (fun _ hk => hk.2) (.int J a0_1)) (fun _ hk => hk.2) (.int J a0_2)) (fun _ hk => hk.2) (.int J a0_3)) (fun _ hk => hk.1.2) (.int J a2)) (fun _ hk => hk.2) (.int J a2)) (fun _ hk => ⟨hk.1.1.1, ⟨hk.1.1.2.1, hk.1.1.2.2⟩⟩)⟩
            have n1_ : Xm (((((((((((w59.setCell ⟨gA, 0, none⟩ (.int J a0_0)).setCell ⟨gA, 1, none⟩ (.int J a0_1)).setCell ⟨gA, 2, none⟩ (.int J a0_2)).setCell ⟨gA, 3, none⟩ (.int J a0_3)).setCell ⟨bA, 0, none⟩ (.int J a0_0)).setCell ⟨bA, 1, none⟩ (.int J a0_1)).setCell ⟨bA, 2, none⟩ (.int J a0_2)).setCell ⟨bA, 3, none⟩ (.int J a0_3)).setCell ⟨gA, 2, none⟩ (.int J a2)).setCell ⟨bA, 0, none⟩ (.int J a2)).heap[vA]? = some (.cells #[.int J a0_0, .int J a0_1, .int J a0_2, .int J a0_3] 27 (0, 0))) := ⟨by (with_reducible repeat (first | refine Xf ?_ _ | refine Xe ?_ | refine Xg ?_ _)); refine Xl ?_ eA.out _; (with_reducible repeat (first | refine Xf ?_ _ | refine Xe ?_ | refine Xg ?_ _)); refine Xl ?_ uA.out _; (with_reducible repeat (first | refine Xf ?_ _ | refine Xe ?_ | refine Xg ?_ _)); refine Xl ?_ eA.out _; (with_reducible repeat (first | refine Xf ?_ _ | refine Xe ?_ | refine Xg ?_ _)); refine Xl ?_ eA.out _; (with_reducible repeat (first | refine Xf ?_ _ | refine Xe ?_ | refine Xg ?_ _)); refine Xl ?_ eA.out _; (with_reducible repeat (first | refine Xf ?_ _ | refine Xe ?_ | refine Xg ?_ _)); refine Xl ?_ eA.out _; (with_reducible repeat (first | refine Xf ?_ _ | refine Xe ?_ | refine Xg ?_ _)); refine Xl ?_ uA.out _; (with_reducible repeat (first | refine Xf ?_ _ | refine Xe ?_ | refine Xg ?_ _)); refine Xl ?_ uA.out _; (with_reducible repeat (first | refine Xf ?_ _ | refine Xe ?_ | refine Xg ?_ _)); refine Xl ?_ uA.out _; (with_reducible repeat (first | refine Xf ?_ _ | refine Xe ?_ | refine Xg ?_ _)); refine Xl ?_ uA.out _; (with_reducible repeat (first | refine Xf ?_ _ | refine Xe ?_ | refine Xg ?_ _)); exact nA.out⟩
            have n2_ : Xm (((((((((((w59.setCell ⟨gA, 0, none⟩ (.int J a0_0)).setCell ⟨gA, 1, none⟩ (.int J a0_1)).setCell ⟨gA, 2, none⟩ (.int J a0_2)).setCell ⟨gA, 3, none⟩ (.int J a0_3)).setCell ⟨bA, 0, none⟩ (.int J a0_0)).setCell ⟨bA, 1, none⟩ (.int J a0_1)).setCell ⟨bA, 2, none⟩ (.int J a0_2)).setCell ⟨bA, 3, none⟩ (.int J a0_3)).setCell ⟨gA, 2, none⟩ (.int J a2)).setCell ⟨bA, 0, none⟩ (.int J a2)).heap[gA]? = some (.cells #[.int J a0_0, .int J a0_1, .int J a2, .int J a0_3] 27 (0, 0))) := ⟨by (with_reducible repeat (first | refine Xf ?_ _ | refine Xe ?_ | refine Xg ?_ _)); refine Xl ?_ zA.out _; (with_reducible repeat (first | refine Xf ?_ _ | refine Xe ?_ | refine Xg ?_ _)); refine Xr (cs := #[.int J a0_0, .int J a0_1, .int J a0_2, .int J a0_3]) ?_ 2 _ rfl; (with_reducible repeat (first | refine Xf ?_ _ | refine Xe ?_ | refine Xg ?_ _)); refine Xl ?_ zA.out _; (with_reducible repeat (first | refine Xf ?_ _ | refine Xe ?_ | refine Xg ?_ _)); refine Xl ?_ zA.out _; (with_reducible repeat (first | refine Xf ?_ _ | refine Xe ?_ | refine Xg ?_ _)); refine Xl ?_ zA.out _; (with_reducible repeat (first | refine Xf ?_ _ | refine Xe ?_ | refine Xg ?_ _)); refine Xl ?_ zA.out _; (with_reducible repeat (first | refine Xf ?_ _ | refine Xe ?_ | refine Xg ?_ _)); refine Xr (cs := #[.int J a0_0, .int J a0_1, .int J a0_2, .int J 0]) ?_ 3 _ rfl; (with_reducible repeat (first | refine Xf ?_ _ | refine Xe ?_ | refine Xg ?_ _)); refine Xr (cs := #[.int J a0_0, .int J a0_1, .int J 0, .int J 0]) ?_ 2 _ rfl; (with_reducible repeat (first | refine Xf ?_ _ | refine Xe ?_ | refine Xg ?_ _)); refine Xr (cs := #[.int J a0_0, .int J 0, .int J 0, .int J 0]) ?_ 1 _ rfl; (with_reducible repeat (first | refine Xf ?_ _ | refine Xe ?_ | refine Xg ?_ _)); refine Xr (cs := #[.int J 0, .int J 0, .int J 0, .int J 0]) ?_ 0 _ rfl; (with_reducible repeat (first | refine Xf ?_ _ | refine Xe ?_ | refine Xg ?_ _)); exact xA.out⟩
            have n3_ : Xm (((((((((((w59.setCell ⟨gA, 0, none⟩ (.int J a0_0)).setCell ⟨gA, 1, none⟩ (.int J a0_1)).setCell ⟨gA, 2, none⟩ (.int J a0_2)).setCell ⟨gA, 3, none⟩ (.int J a0_3)).setCell ⟨bA, 0, none⟩ (.int J a0_0)).setCell ⟨bA, 1, none⟩ (.int J a0_1)).setCell ⟨bA, 2, none⟩ (.int J a0_2)).setCell ⟨bA, 3, none⟩ (.int J a0_3)).setCell ⟨gA, 2, none⟩ (.int J a2)).setCell ⟨bA, 0, none⟩ (.int J a2)).heap[bA]? = some (.cells #[.int J a2, .int J a0_1, .int J a0_2, .int J a0_3] 27 (0, 0))) := ⟨by (with_reducible repeat (first | refine Xf ?_ _ | refine Xe ?_ | refine Xg ?_ _)); refine Xr (cs := #[.int J a0_0, .int J a0_1, .int J a0_2, .int J a0_3]) ?_ 0 _ rfl; (with_reducible repeat (first | refine Xf ?_ _ | refine Xe ?_ | refine Xg ?_ _)); refine Xl ?_ qA.out _; (with_reducible repeat (first | refine Xf ?_ _ | refine Xe ?_ | refine Xg ?_ _)); refine Xr (cs := #[.int J a0_0, .int J a0_1, .int J a0_2, .int J 0]) ?_ 3 _ rfl; (with_reducible repeat (first | refine Xf ?_ _ | refine Xe ?_ | refine Xg ?_ _)); refine Xr (cs := #[.int J a0_0, .int J a0_1, .int J 0, .int J 0]) ?_ 2 _ rfl; (with_reducible repeat (first | refine Xf ?_ _ | refine Xe ?_ | refine Xg ?_ _)); refine Xr (cs := #[.int J a0_0, .int J 0, .int J 0, .int J 0]) ?_ 1 _ rfl; (with_reducible repeat (first | refine Xf ?_ _ | refine Xe ?_ | refine Xg ?_ _)); refine Xr (cs := #[.int J 0, .int J 0, .int J 0, .int J 0]) ?_ 0 _ rfl; (with_reducible repeat (first | refine Xf ?_ _ | refine Xe ?_ | refine Xg ?_ _)); refine Xl ?_ qA.out _; (with_reducible repeat (first | refine Xf ?_ _ | refine Xe ?_ | refine Xg ?_ _)); refine Xl ?_ qA.out _; (with_reducible repeat (first | refine Xf ?_ _ | refine Xe ?_ | refine Xg ?_ _)); refine Xl ?_ qA.out _; (with_reducible repeat (first | refine Xf ?_ _ | refine Xe ?_ | refine Xg ?_ _)); refine Xl ?_ qA.out _; (with_reducible repeat (first | refine Xf ?_ _ | refine Xe ?_ | refine Xg ?_ _)); exact yA.out⟩
            have n4_ : Xm (Below w.heap.size w ((((((((((w59.setCell ⟨gA, 0, none⟩ (.int J a0_0)).setCell ⟨gA, 1, none⟩ (.int J a0_1)).setCell ⟨gA, 2, none⟩ (.int J a0_2)).setCell ⟨gA, 3, none⟩ (.int J a0_3)).setCell ⟨bA, 0, none⟩ (.int J a0_0)).setCell ⟨bA, 1, none⟩ (.int J a0_1)).setCell ⟨bA, 2, none⟩ (.int J a0_2)).setCell ⟨bA, 3, none⟩ (.int J a0_3)).setCell ⟨gA, 2, none⟩ (.int J a2)).setCell ⟨bA, 0, none⟩ (.int J a2))) := ⟨by repeat (first | (with_reducible first | exact HB.out | apply below_alloc | apply Xw | apply Xs | refine Xt ?_ yB.out | refine Xt ?_ uB.out | refine Xt ?_ eB.out) | exact HB.out)⟩
            (try clear gB)
            (try clear nA)
            (try clear xA)
            (try clear yA)
            (try clear HB)
            generalize ((((((((((w59.setCell ⟨gA, 0, none⟩ (.int J a0_0)).setCell ⟨gA, 1, none⟩ (.int J a0_1)).setCell ⟨gA, 2, none⟩ (.int J a0_2)).setCell ⟨gA, 3, none⟩ (.int J a0_3)).setCell ⟨bA, 0, none⟩ (.int J a0_0)).setCell ⟨bA, 1, none⟩ (.int J a0_1)).setCell ⟨bA, 2, none⟩ (.int J a0_2)).setCell ⟨bA, 3, none⟩ (.int J a0_3)).setCell ⟨gA, 2, none⟩ (.int J a2)).setCell ⟨bA, 0, none⟩ (.int J a2)) = w73 at n0_ n1_ n2_ n3_ n4_ ⊢
            have gB := n0_
            have nA := n1_
            have xA := n2_
            have yA := n3_
            have HB := n4_
            clear n0_ n1_ n2_ n3_ n4_
            have n0_ := Za (Kd.R_drew gB.out)
            have n1_ := Za (Xe nA.out)
            have n2_ := Za (Xe xA.out)
            have n3_ := Za (Xe yA.out)
            have n4_ := Za (Xs HB.out)
            clear gB
            clear nA
            clear xA
            clear yA
            clear HB
            have gB := n0_
            have nA := n1_
            have xA := n2_
            have yA := n3_
            have HB := n4_
            clear n0_ n1_ n2_ n3_ n4_
            obtain ⟨Ao75, co75, eo75⟩ := Kd.R_slice gB.out
            (first | subst eo75 | (injection eo75 with f1_ f2_ f3_; have f4_ := f1_.symm; have f5_ := f3_.symm; clear f1_ f2_ f3_; subst f4_; subst f5_))
            have p145 : 0 ≤ (0 : Int) := (by omega)
            have q145 : 0 < (t138.length : Int) := of_decide_eq_true (by first | (with_reducible assumption) | assumption)
            obtain ⟨ad145, e145, hx145_0, hx145_1, hx145_2, hx145_3⟩ := at_T27 (Kd.R_reads' gB.out).2.2 0 p145 q145
            cases e145
            have qi145 : (0 < t138.length) = True := eq_true (by omega)
            (try rw [show ((0 : Int)).toNat = 0 from rfl] at hx145_0)
            (try rw [show 0 * 4 = 0 from rfl] at hx145_0)
            (try rw [Addr.add_zero'] at hx145_0)
            (try rw [show ((0 : Int)).toNat = 0 from rfl] at hx145_1)
            (try rw [show 0 * 4 = 0 from rfl] at hx145_1)
            (try rw [Addr.add_zero'] at hx145_1)
            (try rw [show ((0 : Int)).toNat = 0 from rfl] at hx145_2)
            (try rw [show 0 * 4 = 0 from rfl] at hx145_2)
            (try rw [Addr.add_zero'] at hx145_2)
            (try rw [show ((0 : Int)).toNat = 0 from rfl] at hx145_3)
            (try rw [show 0 * 4 = 0 from rfl] at hx145_3)
            (try rw [Addr.add_zero'] at hx145_3)
            replace p145 := eq_true p145
            replace q145 := eq_true q145
            refine start_ (n := 18) (S := fun w' => w'.cell? ⟨gA, 0, none⟩ = some (.int J a0_0) ∧ w'.cell? ⟨gA, 1, none⟩ = some (.int J a0_1) ∧ w'.cell? ⟨gA, 2, none⟩ = some (.int J a2) ∧ w'.cell? ⟨gA, 3, none⟩ = some (.int J a0_3) ∧ w'.cell? ad145 = some (.int J ((rd_T27 t138 0).f0)) ∧ w'.cell? ⟨ad145.block, ad145.off + 1, none⟩ = some (.int J ((rd_T27 t138 0).f1)) ∧ w'.cell? ⟨ad145.block, ad145.off + 2, none⟩ = some (.int J ((rd_T27 t138 0).f2)) ∧ w'.cell? ⟨ad145.block, ad145.off + 3, none⟩ = some (.int J ((rd_T27 t138 0).f3))) (ds := []) #[Zf,Zf,Zf,Zf,Zf,Zf,Zf,Zf,Zf,Zf,Zf,Zf,Zf,Zf,Zf,Zf,Zf,Zf] (by kernel_rfl) rfl rfl ⟨(Xd xA.out 0).trans rfl, (Xd xA.out 1).trans rfl, (Xd xA.out 2).trans rfl, (Xd xA.out 3).trans rfl, hx145_0, hx145_1, hx145_2, hx145_3⟩ (fun hHeld => ?_); refine with_tabW gatherumlaw04_BoxSplits.tab17 gatherumlaw04_BoxSplits.bits17 (fun HT_ HW_ => ?_)
            generalize w73.drew = w74 at gB nA xA yA HB hx145_0 hx145_1 hx145_2 hx145_3 hHeld ⊢
            refine Xo (i := 0) (N := some 61) (v := ?_) (a' := ?_) #[Zt,Zf,Zf,Zf,Zf,Zf,Zf,Zf,Zf,Zf,Zf,Zf,Zf,Zf,Zf,Zf,Zf,Zf] rfl rfl (Xn HT_.out (by kernel_rfl)) (fun _ _ _ h => h) (Or.inl ⟨by rfl, ?_⟩) ?_ ?_
            rotate_left
            ·intro w'
             go_simp
             with_reducible rfl
            rotate_left
            ·simp only [Act.put, Xa, Xb, Xc, Xj, Xk]
             rfl
            refine Xo (i := 1) (N := some 62) (v := ?_) (a' := ?_) #[Zt,Zt,Zf,Zf,Zf,Zf,Zf,Zf,Zf,Zf,Zf,Zf,Zf,Zf,Zf,Zf,Zf,Zf] rfl rfl (Xn HT_.out (by kernel_rfl)) (fun _ _ _ h => h) (Or.inl ⟨by rfl, ?_⟩) ?_ ?_
            rotate_left
            ·intro w'
             go_simp
             with_reducible rfl
            rotate_left
            ·simp only [Act.put, Xa, Xb, Xc, Xj, Xk]
             rfl
            refine Xo (i := 2) (N := some 63) (v := ?_) (a' := ?_) #[Zt,Zt,Zt,Zf,Zf,Zf,Zf,Zf,Zf,Zf,Zf,Zf,Zf,Zf,Zf,Zf,Zf,Zf] rfl rfl (Xn HT_.out (by kernel_rfl)) (fun _ _ _ h => h) (Or.inl ⟨by rfl, ?_⟩) ?_ ?_
            rotate_left
            ·intro w'
             go_simp
             with_reducible rfl
            rotate_left
            ·simp only [Act.put, Xa, Xb, Xc, Xj, Xk]
             rfl
            refine Xo (i := 3) (N := some 64) (v := ?_) (a' := ?_) #[Zt,Zt,Zt,Zt,Zf,Zf,Zf,Zf,Zf,Zf,Zf,Zf,Zf,Zf,Zf,Zf,Zf,Zf] rfl rfl (Xn HT_.out (by kernel_rfl)) (fun _ _ _ h => h) (Or.inl ⟨by rfl, ?_⟩) ?_ ?_
            rotate_left
            ·intro w'
             go_simp
             with_reducible rfl
            rotate_left
            ·simp only [Act.put, Xa, Xb, Xc, Xj, Xk]
             rfl
            refine Xo (i := 4) (N := some 65) (v := ?_) (a' := ?_) #[Zt,Zt,Zt,Zt,Zt,Zf,Zf,Zf,Zf,Zf,Zf,Zf,Zf,Zf,Zf,Zf,Zf,Zf] rfl rfl (Xn HT_.out (by kernel_rfl)) (fun _ _ _ h => h) (Or.inl ⟨by rfl, ?_⟩) ?_ ?_
            rotate_left
            ·intro w'
             go_simp
             with_reducible rfl
            rotate_left
            ·simp only [Act.put, Xa, Xb, Xc, Xj, Xk]
             rfl
            refine Xo (i := 5) (N := some 66) (v := ?_) (a' := ?_) #[Zt,Zt,Zt,Zt,Zt,Zt,Zf,Zf,Zf,Zf,Zf,Zf,Zf,Zf,Zf,Zf,Zf,Zf] rfl rfl (Xn HT_.out (by kernel_rfl)) (fun _ _ _ h => h) (Or.inl ⟨by rfl, ?_⟩) ?_ ?_
            rotate_left
            ·intro w'
             go_simp
             with_reducible rfl
            rotate_left
            ·simp only [Act.put, Xa, Xb, Xc, Xj, Xk]
             rfl
            refine take_ (i := 6) (N := some 67) (v := ?_) (a' := ?_) #[Zt,Zt,Zt,Zt,Zt,Zt,Zt,Zf,Zf,Zf,Zf,Zf,Zf,Zf,Zf,Zf,Zf,Zf] rfl rfl (take_ofW HT_.out HW_.out (by kernel_rfl)) (fun _ _ _ h => h) (Or.inl ⟨by rfl, ?_⟩) hHeld ?_ ?_
            rotate_left
            ·rintro w' ⟨s0, s1, s2, s3, s4, s5, s6, s7⟩
             go_simp
             with_reducible rfl
            rotate_left
            ·simp only [Act.put, Xa, Xb, Xc, Xj, Xk]
             rfl
            refine take_ (i := 7) (N := some 68) (v := ?_) (a' := ?_) #[Zt,Zt,Zt,Zt,Zt,Zt,Zt,Zt,Zf,Zf,Zf,Zf,Zf,Zf,Zf,Zf,Zf,Zf] rfl rfl (take_ofW HT_.out HW_.out (by kernel_rfl)) (fun _ _ _ h => h) (Or.inl ⟨by rfl, ?_⟩) hHeld ?_ ?_
            rotate_left
            ·rintro w' ⟨s0, s1, s2, s3, s4, s5, s6, s7⟩
             go_simp
             with_reducible rfl
            rotate_left
            ·simp only [Act.put, Xa, Xb, Xc, Xj, Xk]
             rfl
            refine Xo (i := 8) (N := some 69) (v := ?_) (a' := ?_) #[Zt,Zt,Zt,Zt,Zt,Zt,Zt,Zt,Zt,Zf,Zf,Zf,Zf,Zf,Zf,Zf,Zf,Zf] rfl rfl (Xn HT_.out (by kernel_rfl)) (fun _ _ _ h => h) (Or.inl ⟨by rfl, ?_⟩) ?_ ?_
            rotate_left
            ·intro w'
             go_simp
             with_reducible rfl
            rotate_left
            ·simp only [Act.put, Xa, Xb, Xc, Xj, Xk]
             rfl
            refine Xo (i := 9) (N := some 70) (v := ?_) (a' := ?_) #[Zt,Zt,Zt,Zt,Zt,Zt,Zt,Zt,Zt,Zt,Zf,Zf,Zf,Zf,Zf,Zf,Zf,Zf] rfl rfl (Xn HT_.out (by kernel_rfl)) (fun _ _ _ h => h) (Or.inl ⟨by rfl, ?_⟩) ?_ ?_
            rotate_left
            ·intro w'
             go_simp
             with_reducible rfl
            rotate_left
            ·simp only [Act.put, Xa, Xb, Xc, Xj, Xk]
             rfl
            refine Xo (i := 10) (N := some 71) (v := ?_) (a' := ?_) #[Zt,Zt,Zt,Zt,Zt,Zt,Zt,Zt,Zt,Zt,Zt,Zf,Zf,Zf,Zf,Zf,Zf,Zf] rfl rfl (Xn HT_.out (by kernel_rfl)) (fun _ _ _ h => h) (Or.inl ⟨by rfl, ?_⟩) ?_ ?_
            rotate_left
            ·intro w'
             go_simp
             with_reducible rfl
            rotate_left
            ·simp only [Act.put, Xa, Xb, Xc, Xj, Xk]
             rfl
            refine Xo (i := 11) (N := some 72) (v := undef) (a' := ?_) #[Zt,Zt,Zt,Zt,Zt,Zt,Zt,Zt,Zt,Zt,Zt,Zt,Zf,Zf,Zf,Zf,Zf,Zf] rfl rfl (Xn HT_.out (by kernel_rfl)) (fun _ _ _ h => h) (Or.inr ⟨by rfl, rfl⟩) ?_ ?_
            rotate_left
            ·simp only [Act.put, Xa, Xb, Xc, Xj, Xk]
             rfl
            refine Xo (i := 12) (N := some 73) (v := undef) (a' := ?_) #[Zt,Zt,Zt,Zt,Zt,Zt,Zt,Zt,Zt,Zt,Zt,Zt,Zt,Zf,Zf,Zf,Zf,Zf] rfl rfl (Xn HT_.out (by kernel_rfl)) (fun _ _ _ h => h) (Or.inr ⟨by rfl, rfl⟩) ?_ ?_
            rotate_left
            ·simp only [Act.put, Xa, Xb, Xc, Xj, Xk]
             rfl
            refine Xo (i := 13) (N := some 74) (v := undef) (a' := ?_) #[Zt,Zt,Zt,Zt,Zt,Zt,Zt,Zt,Zt,Zt,Zt,Zt,Zt,Zt,Zf,Zf,Zf,Zf] rfl rfl (Xn HT_.out (by kernel_rfl)) (fun _ _ _ h => h) (Or.inr ⟨by rfl, rfl⟩) ?_ ?_
            rotate_left
            ·simp only [Act.put, Xa, Xb, Xc, Xj, Xk]
             rfl
            refine Xo (i := 14) (N := some 75) (v := undef) (a' := ?_) #[Zt,Zt,Zt,Zt,Zt,Zt,Zt,Zt,Zt,Zt,Zt,Zt,Zt,Zt,Zt,Zf,Zf,Zf] rfl rfl (Xn HT_.out (by kernel_rfl)) (fun _ _ _ h => h) (Or.inr ⟨by rfl, rfl⟩) ?_ ?_
            rotate_left
            ·simp only [Act.put, Xa, Xb, Xc, Xj, Xk]
             rfl
            refine Xo (i := 15) (N := some 76) (v := undef) (a' := ?_) #[Zt,Zt,Zt,Zt,Zt,Zt,Zt,Zt,Zt,Zt,Zt,Zt,Zt,Zt,Zt,Zt,Zf,Zf] rfl rfl (Xn HT_.out (by kernel_rfl)) (fun _ _ _ h => h) (Or.inr ⟨by rfl, rfl⟩) ?_ ?_
            rotate_left
            ·simp only [Act.put, Xa, Xb, Xc, Xj, Xk]
             rfl
            refine Xo (i := 16) (N := some 77) (v := ?_) (a' := ?_) #[Zt,Zt,Zt,Zt,Zt,Zt,Zt,Zt,Zt,Zt,Zt,Zt,Zt,Zt,Zt,Zt,Zt,Zf] rfl rfl (Xn HT_.out (by kernel_rfl)) (fun _ _ _ h => h) (Or.inl ⟨by rfl, ?_⟩) ?_ ?_
            rotate_left
            ·intro w'
             go_simp
             with_reducible rfl
            rotate_left
            ·simp only [Act.put, Xa, Xb, Xc, Xj, Xk]
             rfl
            refine Xo (i := 17) (N := some 6) (v := ?_) (a' := ?_) #[Zt,Zt,Zt,Zt,Zt,Zt,Zt,Zt,Zt,Zt,Zt,Zt,Zt,Zt,Zt,Zt,Zt,Zt] rfl rfl (Xn HT_.out (by kernel_rfl)) (fun _ _ _ h => h) (Or.inl ⟨by rfl, ?_⟩) ?_ ?_
            rotate_left
            ·intro w'
             go_simp
             with_reducible rfl
            rotate_left
            ·simp only [Act.put, Xa, Xb, Xc, Xj, Xk]
             rfl
            refine done_ (done_of HT_.out (by kernel_rfl)) ?_
            try go_wp2
            go_ret
            exact ⟨by first | rfl | (simp [errW_none, errW_some] <;> rfl) | (simp [*, errW_none, errW_some] <;> rfl), by repeat (first | (with_reducible first | exact HB.out | apply below_alloc | apply Xw | apply Xs | refine Xt ?_ yB.out | refine Xt ?_ uB.out | refine Xt ?_ eB.out) | exact HB.out)⟩
          ·rw [if_neg c33] at H
           exact absurd H (by simp)
         ·rw [if_neg c32] at H
          have c32b0 : ((t138.length : Int) == 2) = Zf := beq_eq_false_iff_ne.mpr c32
          have c32b1 : ((t138.length : Int) != 2) = Zt := bne_iff_ne.mpr c32
          obtain rfl := Option.some.inj H
          try go_wp2
          have n0_ := Za (Kd.R_drew gB.out)
          have n1_ := Za (Xe nA.out)
          have n2_ := Za (Xs HB.out)
          clear gB
          clear nA
          clear HB
          have gB := n0_
          have nA := n1_
          have HB := n2_
          clear n0_ n1_ n2_
          refine start_ (n := 6) (S := fun w' => w'.cell? ⟨vA, 0, none⟩ = some (.int J a0_0) ∧ w'.cell? ⟨vA, 1, none⟩ = some (.int J a0_1) ∧ w'.cell? ⟨vA, 2, none⟩ = some (.int J a0_2) ∧ w'.cell? ⟨vA, 3, none⟩ = some (.int J a0_3)) (ds := []) #[Zf,Zf,Zf,Zf,Zf,Zf] (by kernel_rfl) rfl rfl ⟨(Xd nA.out 0).trans rfl, (Xd nA.out 1).trans rfl, (Xd nA.out 2).trans rfl, (Xd nA.out 3).trans rfl⟩ (fun hHeld => ?_)
          generalize wc.drew = w76 at gB nA HB hHeld ⊢
          refine take_ (i := 0) (N := some 50) (v := ?_) (a' := ?_) #[Zt,Zf,Zf,Zf,Zf,Zf] rfl rfl (by kernel_rfl) (fun _ _ _ h => h) (Or.inl ⟨by rfl, ?_⟩) hHeld ?_ ?_
          rotate_left
          ·rintro w' ⟨s0, s1, s2, s3⟩
           go_simp
           with_reducible rfl
          rotate_left
          ·simp only [Act.put, Xa, Xb, Xc, Xj, Xk]
           rfl
          refine take_ (i := 1) (N := some 51) (v := ?_) (a' := ?_) #[Zt,Zt,Zf,Zf,Zf,Zf] rfl rfl (by kernel_rfl) (fun _ _ _ h => h) (Or.inl ⟨by rfl, ?_⟩) hHeld ?_ ?_
          rotate_left
          ·rintro w' ⟨s0, s1, s2, s3⟩
           go_simp
           with_reducible rfl
          rotate_left
          ·simp only [Act.put, Xa, Xb, Xc, Xj, Xk]
           rfl
          refine join_ (σ := Nat × Nat) 2 #[Zt,Zt,Zt,Zt,Zf,Zf] (fun s_ => [(10, .pointer (some ⟨s_.1, 0, none⟩)), (11, .pointer (some ⟨s_.2, 0, none⟩))]) (fun s_ w' => (w'.cell? ⟨vA, 0, none⟩ = some (.int J a0_0) ∧ w'.cell? ⟨vA, 1, none⟩ = some (.int J a0_1) ∧ w'.cell? ⟨vA, 2, none⟩ = some (.int J a0_2) ∧ w'.cell? ⟨vA, 3, none⟩ = some (.int J a0_3)) ∧ (Kd.R k27 27 w' w.heap.size (fun k_ => k_ ≠ vA ∧ k_ ≠ s_.1 ∧ k_ ≠ s_.2) v139 t138) ∧ (w'.heap[vA]? = some (.cells #[.int J a0_0, .int J a0_1, .int J a0_2, .int J a0_3] 27 (0, 0))) ∧ (w'.heap[s_.1]? = some (.cells #[.int J 0, .int J 0, .int J 0, .int J 0] 27 (0, 0))) ∧ (w'.heap[s_.2]? = some (.cells #[.int J 0, .int J 0, .int J 0, .int J 0] 27 (0, 0))) ∧ (w.heap.size ≤ s_.1) ∧ (w.heap.size ≤ s_.1) ∧ (vA ≠ s_.1) ∧ (s_.1 ≠ vA) ∧ (s_.2 ≠ s_.1) ∧ (s_.1 ≠ s_.2) ∧ (w.heap.size ≤ s_.2) ∧ (w.heap.size ≤ s_.2) ∧ (vA ≠ s_.2) ∧ (s_.2 ≠ vA) ∧ (Below w.heap.size w w')) ?_ ?_
          rotate_left
          ·intro hCont
           refine two_ (i := 2) (j := 3) (Ni := some 10) (Nj := some 11) #[Zt,Zt,Zt,Zf,Zf,Zf] #[Zt,Zt,Zf,Zt,Zf,Zf] rfl rfl rfl rfl (by kernel_rfl) (by decide) (by decide) (fun K hK => ?_) (fun K hK => ?_)
           ·skip
            refine box_step ?hg (N := 10) ?hd (cs := #[.int J 0, .int J 0, .int J 0, .int J 0]) (t := 27) ?hr ?_; (case hd => rfl); (case hg => rfl); (case hr => first | (go_simp; done) | (go_simp; rfl))
            intro gA hg w77 hbox hb
            have n0_ := Za (Kd.R_below (Kd.R_elderB (by (with_reducible repeat (first | apply Kd.R_alloc | apply Kd.R_drewN | apply Kd.R_drew)); exact gB.out) gA (Nat.le_of_eq hg.symm)) hb)
            have n1_ := Za (Xu (g := vA) (o := .cells #[.int J a0_0, .int J a0_1, .int J a0_2, .int J a0_3] 27 (0, 0)) (bb_5 nA.out) hb)
            have n2_ := Za (Xv (hb_5 HB.out) hb)
            have n3_ := Za (hbox)
            have n4_ := Za ((by rw [hg]; exact (Xp (hb_5 HB.out)) : w.heap.size ≤ gA))
            have n5_ := Za ((by rw [hg]; exact (Xp (hb_5 HB.out)) : w.heap.size ≤ gA))
            have n6_ := Za ((by rw [hg]; exact Nat.ne_of_lt (Xq (g := vA) (o := .cells #[.int J a0_0, .int J a0_1, .int J a0_2, .int J a0_3] 27 (0, 0)) (bb_5 nA.out)) : vA ≠ gA))
            have n7_ := Za ((by rw [hg]; exact Nat.ne_of_gt (Xq (g := vA) (o := .cells #[.int J a0_0, .int J a0_1, .int J a0_2, .int J a0_3] 27 (0, 0)) (bb_5 nA.out)) : gA ≠ vA))
            clear gB
            clear nA
            clear HB
            have gB := n0_
            have nA := n1_
            have HB := n2_
            have xA := n3_
            have vB := n4_
            have uB := n5_
            have uA := n6_
            have bB := n7_
            clear n0_ n1_ n2_ n3_ n4_ n5_ n6_ n7_
            clear hb hbox hg
            refine hK.out _ _ ⟨(Xd nA.out 0).trans rfl, (Xd nA.out 1).trans rfl, (Xd nA.out 2).trans rfl, (Xd nA.out 3).trans rfl⟩ (fun hHeld => ?_)
            clear hK K
            refine norm_ (a' := ?_) ?_ ?_
            rotate_left
            ·show Act.put _ (some 10) _ = _
             simp only [Act.put, Xa, Xb, Xc, Xj, Xk]
             rfl
            refine one_ (i := 3) (N := some 11) #[Zt,Zt,Zt,Zt,Zf,Zf] rfl rfl (by kernel_rfl) (by decide) (fun K hK => ?_)
            refine box_step ?hg (N := 11) ?hd (cs := #[.int J 0, .int J 0, .int J 0, .int J 0]) (t := 27) ?hr ?_; (case hd => rfl); (case hg => rfl); (case hr => first | (go_simp; done) | (go_simp; rfl))
            intro bA hg w78 hbox hb
            have n0_ := Za (Kd.R_below (Kd.R_elderB (by (with_reducible repeat (first | apply Kd.R_alloc | apply Kd.R_drewN | apply Kd.R_drew)); exact gB.out) bA (Nat.le_of_eq hg.symm)) hb)
            have n1_ := Za (Xu (g := vA) (o := .cells #[.int J a0_0, .int J a0_1, .int J a0_2, .int J a0_3] 27 (0, 0)) (bb_5 nA.out) hb)
            have n2_ := Za (Xu (g := gA) (o := .cells #[.int J 0, .int J 0, .int J 0, .int J 0] 27 (0, 0)) (bb_5 xA.out) hb)
            have n3_ := Za (Xv (hb_5 HB.out) hb)
            have n4_ := Za (hbox)
            have n5_ := Za ((by rw [hg]; exact (Xp (hb_5 HB.out)) : w.heap.size ≤ bA))
            have n6_ := Za ((by rw [hg]; exact (Xp (hb_5 HB.out)) : w.heap.size ≤ bA))
            have n7_ := Za ((by rw [hg]; exact Nat.ne_of_lt (Xq (g := vA) (o := .cells #[.int J a0_0, .int J a0_1, .int J a0_2, .int J a0_3] 27 (0, 0)) (bb_5 nA.out)) : vA ≠ bA))
            have n8_ := Za ((by rw [hg]; exact Nat.ne_of_gt (Xq (g := vA) (o := .cells #[.int J a0_0, .int J a0_1, .int J a0_2, .int J a0_3] 27 (0, 0)) (bb_5 nA.out)) : bA ≠ vA))
            have n9_ := Za ((by rw [hg]; exact Nat.ne_of_lt (Xq (g := gA) (o := .cells #[.int J 0, .int J 0, .int J 0, .int J 0] 27 (0, 0)) (bb_5 xA.out)) : gA ≠ bA))
            have n10_ := Za ((by rw [hg]; exact Nat.ne_of_gt (Xq (g := gA) (o := .cells #[.int J 0, .int J 0, .int J 0, .int J 0] 27 (0, 0)) (bb_5 xA.out)) : bA ≠ gA))
            clear gB
            clear nA
            clear xA
            clear HB
            have gB := n0_
            have nA := n1_
            have xA := n2_
            have HB := n3_
            have yA := n4_
            have xB := n5_
            have eB := n6_
            have eA := n7_
            have nB := n8_
            have zA := n9_
            have qA := n10_
            clear n0_ n1_ n2_ n3_ n4_ n5_ n6_ n7_ n8_ n9_ n10_
            clear hb hbox hg
            refine hK.out _ _ ⟨(Xd nA.out 0).trans rfl, (Xd nA.out 1).trans rfl, (Xd nA.out 2).trans rfl, (Xd nA.out 3).trans rfl⟩ (fun hHeld => ?_)
            clear hK K
            refine norm_ (a' := ?_) ?_ ?_
            rotate_left
            ·show Act.put _ (some 11) _ = _
             simp only [Act.put, Xa, Xb, Xc, Xj, Xk]
             rfl
            exact norm_ (by simp only [putAll, Act.put, Xa, Xb, Xc]) (hCont (gA, bA) _ ⟨hHeld, (by (with_reducible repeat (first | apply Kd.R_alloc | apply Kd.R_drewN | apply Kd.R_drew)); exact Kd.R_mono gB.out (fun _ hk => ⟨hk.1.1, ⟨hk.1.2, hk.2⟩⟩)), (bb_5 nA.out), (bb_5 xA.out), (bb_5 yA.out), vB.out, uB.out, uA.out, bB.out, qA.out, zA.out, xB.out, eB.out, eA.out, nB.out, (hb_5 HB.out)⟩)
           ·skip
            refine box_step ?hg (N := 11) ?hd (cs := #[.int J 0, .int J 0, .int J 0, .int J 0]) (t := 27) ?hr ?_; (case hd => rfl); (case hg => rfl); (case hr => first | (go_simp; done) | (go_simp; rfl))
            intro bA hg w77 hbox hb
            have n0_ := Za (Kd.R_below (Kd.R_elderB (by (with_reducible repeat (first | apply Kd.R_alloc | apply Kd.R_drewN | apply Kd.R_drew)); exact gB.out) bA (Nat.le_of_eq hg.symm)) hb)
            have n1_ := Za (Xu (g := vA) (o := .cells #[.int J a0_0, .int J a0_1, .int J a0_2, .int J a0_3] 27 (0, 0)) (bb_5 nA.out) hb)
            have n2_ := Za (Xv (hb_5 HB.out) hb)
            have n3_ := Za (hbox)
            have n4_ := Za ((by rw [hg]; exact (Xp (hb_5 HB.out)) : w.heap.size ≤ bA))
            have n5_ := Za ((by rw [hg]; exact (Xp (hb_5 HB.out)) : w.heap.size ≤ bA))
            have n6_ := Za ((by rw [hg]; exact Nat.ne_of_lt (Xq (g := vA) (o := .cells #[.int J a0_0, .int J a0_1, .int J a0_2, .int J a0_3] 27 (0, 0)) (bb_5 nA.out)) : vA ≠ bA))
            have n7_ := Za ((by rw [hg]; exact Nat.ne_of_gt (Xq (g := vA) (o := .cells #[.int J a0_0, .int J a0_1, .int J a0_2, .int J a0_3] 27 (0, 0)) (bb_5 nA.out)) : bA ≠ vA))
            clear gB
            clear nA
            clear HB
            have gB := n0_
            have nA := n1_
            have HB := n2_
            have yA := n3_
            have xB := n4_
            have eB := n5_
            have eA := n6_
            have nB := n7_
            clear n0_ n1_ n2_ n3_ n4_ n5_ n6_ n7_
            clear hb hbox hg
            refine hK.out _ _ ⟨(Xd nA.out 0).trans rfl, (Xd nA.out 1).trans rfl, (Xd nA.out 2).trans rfl, (Xd nA.out 3).trans rfl⟩ (fun hHeld => ?_)
            clear hK K
            refine norm_ (a' := ?_) ?_ ?_
            rotate_left
            ·show Act.put _ (some 11) _ = _
             simp only [Act.put, Xa, Xb, Xc, Xj, Xk]
             rfl
            refine one_ (i := 2) (N := some 10) #[Zt,Zt,Zt,Zt,Zf,Zf] rfl rfl (by kernel_rfl) (by decide) (fun K hK => ?_)
            refine box_step ?hg (N := 10) ?hd (cs := #[.int J 0, .int J 0, .int J 0, .int J 0]) (t := 27) ?hr ?_; (case hd => rfl); (case hg => rfl); (case hr => first | (go_simp; done) | (go_simp; rfl))
            intro gA hg w78 hbox hb
            have n0_ := Za (Kd.R_below (Kd.R_elderB (by (with_reducible repeat (first | apply Kd.R_alloc | apply Kd.R_drewN | apply Kd.R_drew)); exact gB.out) gA (Nat.le_of_eq hg.symm)) hb)
            have n1_ := Za (Xu (g := vA) (o := .cells #[.int J a0_0, .int J a0_1, .int J a0_2, .int J a0_3] 27 (0, 0)) (bb_5 nA.out) hb)
            have n2_ := Za (Xu (g := bA) (o := .cells #[.int J 0, .int J 0, .int J 0, .int J 0] 27 (0, 0)) (bb_5 yA.out) hb)
            have n3_ := Za (Xv (hb_5 HB.out) hb)
            have n4_ := Za (hbox)
            have n5_ := Za ((by rw [hg]; exact (Xp (hb_5 HB.out)) : w.heap.size ≤ gA))
            have n6_ := Za ((by rw [hg]; exact (Xp (hb_5 HB.out)) : w.heap.size ≤ gA))
            have n7_ := Za ((by rw [hg]; exact Nat.ne_of_lt (Xq (g := vA) (o := .cells #[.int J a0_0, .int J a0_1, .int J a0_2, .int J a0_3] 27 (0, 0)) (bb_5 nA.out)) : vA ≠ gA))
            have n8_ := Za ((by rw [hg]; exact Nat.ne_of_gt (Xq (g := vA) (o := .cells #[.int J a0_0, .int J a0_1, .int J a0_2, .int J a0_3] 27 (0, 0)) (bb_5 nA.out)) : gA ≠ vA))
            have n9_ := Za ((by rw [hg]; exact Nat.ne_of_lt (Xq (g := bA) (o := .cells #[.int J 0, .int J 0, .int J 0, .int J 0] 27 (0, 0)) (bb_5 yA.out)) : bA ≠ gA))
            have n10_ := Za ((by rw [hg]; exact Nat.ne_of_gt (Xq (g := bA) (o := .cells #[.int J 0, .int J 0, .int J 0, .int J 0] 27 (0, 0)) (bb_5 yA.out)) : gA ≠ bA))
            clear gB
            clear nA
            clear yA
            clear HB
            have gB := n0_
            have nA := n1_
            have yA := n2_
            have HB := n3_
            have xA := n4_
            have vB := n5_
            have uB := n6_
            have uA := n7_
            have bB := n8_
            have qA := n9_
            have zA := n10_
            clear n0_ n1_ n2_ n3_ n4_ n5_ n6_ n7_ n8_ n9_ n10_
            clear hb hbox hg
            refine hK.out _ _ ⟨(Xd nA.out 0).trans rfl, (Xd nA.out 1).trans rfl, (Xd nA.out 2).trans rfl, (Xd nA.out 3).trans rfl⟩ (fun hHeld => ?_)
            clear hK K
            refine norm_ (a' := ?_) ?_ ?_
            rotate_left
            ·show Act.put _ (some 10) _ = _
             simp only [Act.put, Xa, Xb, Xc, Xj, Xk]
             rfl
            exact norm_ (by simp only [putAll, Act.put, Xa, Xb, Xc]) (hCont (gA, bA) _ ⟨hHeld, (by (with_reducible repeat (first | apply Kd.R_alloc | apply Kd.R_drewN | apply Kd.R_drew)); exact Kd.R_mono gB.out (fun _ hk => ⟨hk.1.1, ⟨hk.2, hk.1.2⟩⟩)), (bb_5 nA.out), (bb_5 xA.out), (bb_5 yA.out), vB.out, uB.out, uA.out, bB.out, qA.out, zA.out, xB.out, eB.out, eA.out, nB.out, (hb_5 HB.out)⟩)
          rintro ⟨gA, bA⟩ w79 ⟨hS_, h0_, h1_, h2_, h3_, h4_, h5_, h6_, h7_, h8_, h9_, h10_, h11_, h12_, h13_, h14_⟩
          have n0_ : Xm (Kd.R k27 27 w79 w.heap.size (fun k_ => k_ ≠ vA ∧ k_ ≠ gA ∧ k_ ≠ bA) v139 t138) := ⟨h0_⟩
          have n1_ : Xm (w79.heap[vA]? = some (.cells #[.int J a0_0, .int J a0_1, .int J a0_2, .int J a0_3] 27 (0, 0))) := ⟨h1_⟩
          have n2_ : Xm (w79.heap[gA]? = some (.cells #[.int J 0, .int J 0, .int J 0, .int J 0] 27 (0, 0))) := ⟨h2_⟩
          have n3_ : Xm (w79.heap[bA]? = some (.cells #[.int J 0, .int J 0, .int J 0, .int J 0] 27 (0, 0))) := ⟨h3_⟩
          have n4_ : Xm (w.heap.size ≤ gA) := ⟨h4_⟩
          have n5_ : Xm (w.heap.size ≤ gA) := ⟨h5_⟩
          have n6_ : Xm (vA ≠ gA) := ⟨h6_⟩
          have n7_ : Xm (gA ≠ vA) := ⟨h7_⟩
          have n8_ : Xm (bA ≠ gA) := ⟨h8_⟩
          have n9_ : Xm (gA ≠ bA) := ⟨h9_⟩
          have n10_ : Xm (w.heap.size ≤ bA) := ⟨h10_⟩
          have n11_ : Xm (w.heap.size ≤ bA) := ⟨h11_⟩
          have n12_ : Xm (vA ≠ bA) := ⟨h12_⟩
          have n13_ : Xm (bA ≠ vA) := ⟨h13_⟩
          have n14_ : Xm (Below w.heap.size w w79) := ⟨h14_⟩
          clear gB
          clear nA
          clear HB
          clear h0_ h1_ h2_ h3_ h4_ h5_ h6_ h7_ h8_ h9_ h10_ h11_ h12_ h13_ h14_
          have gB := n0_
          have nA := n1_
          have xA := n2_
          have yA := n3_
          have vB := n4_
          have uB := n5_
          have uA := n6_
          have bB := n7_
          have qA := n8_
          have zA := n9_
          have xB := n10_
          have eB := n11_
          have eA := n12_
          have nB := n13_
          have HB := n14_
          clear n0_ n1_ n2_ n3_ n4_ n5_ n6_ n7_ n8_ n9_ n10_ n11_ n12_ n13_ n14_
          have hHeld : w79.cell? ⟨vA, 0, none⟩ = some (.int J a0_0) ∧ w79.cell? ⟨vA, 1, none⟩ = some (.int J a0_1) ∧ w79.cell? ⟨vA, 2, none⟩ = some (.int J a0_2) ∧ w79.cell? ⟨vA, 3, none⟩ = some (.int J a0_3) := hS_
          refine norm_ (a' := ?_) ?_ ?_
          rotate_left
          ·simp only [putAll, Act.put, Xa, Xb, Xc]
           rfl
          refine one_ (i := 4) (N := none) #[Zt,Zt,Zt,Zt,Zt,Zf] rfl rfl (by kernel_rfl) (by decide) (fun K hK => ?_)
          have hs80 : w79.cell? ⟨gA, 0, none⟩ = some (.int J 0) := (Xd xA.out 0).trans rfl
          have hfs80 := Xi xA.out 0
          have hns80_0 := uA.out
          have hns80_2 := qA.out
          have hms80_0 := bB.out
          have hms80_2 := zA.out
          have hs81 : w79.cell? ⟨gA, 1, none⟩ = some (.int J 0) := (Xd xA.out 1).trans rfl
          have hfs81 := Xi xA.out 1
          have hns81_0 := uA.out
          have hns81_2 := qA.out
          have hms81_0 := bB.out
          have hms81_2 := zA.out
          have hs82 : w79.cell? ⟨gA, 2, none⟩ = some (.int J 0) := (Xd xA.out 2).trans rfl
          have hfs82 := Xi xA.out 2
          have hns82_0 := uA.out
          have hns82_2 := qA.out
          have hms82_0 := bB.out
          have hms82_2 := zA.out
          have hs83 : w79.cell? ⟨gA, 3, none⟩ = some (.int J 0) := (Xd xA.out 3).trans rfl
          have hfs83 := Xi xA.out 3
          have hns83_0 := uA.out
          have hns83_2 := qA.out
          have hms83_0 := bB.out
          have hms83_2 := zA.out
          refine skip_ (w1 := ?_) (by rfl) rfl ?_ ?_
          rotate_left
          ·go_simp
           rfl
          refine hK.out _ _ ⟨((Xh (p := ⟨gA, _, none⟩) uA.out _).trans (((Xh (p := ⟨gA, _, none⟩) uA.out _).trans (((Xh (p := ⟨gA, _, none⟩) uA.out _).trans (((Xh (p := ⟨gA, _, none⟩) uA.out _).trans (hHeld.1)))))))), ((Xh (p := ⟨gA, _, none⟩) uA.out _).trans (((Xh (p := ⟨gA, _, none⟩) uA.out _).trans (((Xh (p := ⟨gA, _, none⟩) uA.out _).trans (((Xh (p := ⟨gA, _, none⟩) uA.out _).trans (hHeld.2.1)))))))), ((Xh (p := ⟨gA, _, none⟩) uA.out _).trans (((Xh (p := ⟨gA, _, none⟩) uA.out _).trans (((Xh (p := ⟨gA, _, none⟩) uA.out _).trans (((Xh (p := ⟨gA, _, none⟩) uA.out _).trans (hHeld.2.2.1)))))))), ((Xh (p := ⟨gA, _, none⟩) uA.out _).trans (((Xh (p := ⟨gA, _, none⟩) uA.out _).trans (((Xh (p := ⟨gA, _, none⟩) uA.out _).trans (((Xh (p := ⟨gA, _, none⟩) uA.out _).trans (hHeld.2.2.2))))))))⟩ (fun hHeld => ?_)
          clear hK K
          refine one_ (i := 5) (N := none) #[Zt,Zt,Zt,Zt,Zt,Zt] rfl rfl (by kernel_rfl) (by decide) (fun K hK => ?_)
          have hs84 : w79.cell? ⟨bA, 0, none⟩ = some (.int J 0) := (Xd yA.out 0).trans rfl
          have hfs84 := Xi yA.out 0
          have hns84_0 := eA.out
          have hns84_1 := zA.out
          have hms84_0 := nB.out
          have hms84_1 := qA.out
          have hs85 : w79.cell? ⟨bA, 1, none⟩ = some (.int J 0) := (Xd yA.out 1).trans rfl
          have hfs85 := Xi yA.out 1
          have hns85_0 := eA.out
          have hns85_1 := zA.out
          have hms85_0 := nB.out
          have hms85_1 := qA.out
          have hs86 : w79.cell? ⟨bA, 2, none⟩ = some (.int J 0) := (Xd yA.out 2).trans rfl
          have hfs86 := Xi yA.out 2
          have hns86_0 := eA.out
          have hns86_1 := zA.out
          have hms86_0 := nB.out
          have hms86_1 := qA.out
          have hs87 : w79.cell? ⟨bA, 3, none⟩ = some (.int J 0) := (Xd yA.out 3).trans rfl
          have hfs87 := Xi yA.out 3
          have hns87_0 := eA.out
          have hns87_1 := zA.out
          have hms87_0 := nB.out
          have hms87_1 := qA.out
          refine skip_ (w1 := ?_) (by rfl) rfl ?_ ?_
          rotate_left
          ·go_simp
           rfl
          refine hK.out _ _ ⟨((Xh (p := ⟨bA, _, none⟩) eA.out _).trans (((Xh (p := ⟨bA, _, none⟩) eA.out _).trans (((Xh (p := ⟨bA, _, none⟩) eA.out _).trans (((Xh (p := ⟨bA, _, none⟩) eA.out _).trans (hHeld.1)))))))), ((Xh (p := ⟨bA, _, none⟩) eA.out _).trans (((Xh (p := ⟨bA, _, none⟩) eA.out _).trans (((Xh (p := ⟨bA, _, none⟩) eA.out _).trans (((Xh (p := ⟨bA, _, none⟩) eA.out _).trans (hHeld.2.1)))))))), ((Xh (p := ⟨bA, _, none⟩) eA.out _).trans (((Xh (p := ⟨bA, _, none⟩) eA.out _).trans (((Xh (p := ⟨bA, _, none⟩) eA.out _).trans (((Xh (p := ⟨bA, _, none⟩) eA.out _).trans (hHeld.2.2.1)))))))), ((Xh (p := ⟨bA, _, none⟩) eA.out _).trans (((Xh (p := ⟨bA, _, none⟩) eA.out _).trans (((Xh (p := ⟨bA, _, none⟩) eA.out _).trans (((Xh (p := ⟨bA, _, none⟩) eA.out _).trans (hHeld.2.2.2))))))))⟩ (fun hHeld => ?_)
          clear hK K
          refine done_ (by kernel_rfl) ?_
          have hnb88 := bB.out
          have hnc88 := uA.out
          have hnb89 := zA.out
          have hnc89 := qA.out
          have hcz90_0 : w79.cell? ⟨gA, 0, none⟩ = some (.int J 0) := (Xd xA.out 0).trans rfl
          have hcz90_1 : w79.cell? ⟨gA, 1, none⟩ = some (.int J 0) := (Xd xA.out 1).trans rfl
          have hcz90_2 : w79.cell? ⟨gA, 2, none⟩ = some (.int J 0) := (Xd xA.out 2).trans rfl
          have hcz90_3 : w79.cell? ⟨gA, 3, none⟩ = some (.int J 0) := (Xd xA.out 3).trans rfl
          have hfz90_0 := Xi xA.out 0
          have hfz90_1 := Xi xA.out 1
          have hfz90_2 := Xi xA.out 2
          have hfz90_3 := Xi xA.out 3
          have hnb91 := nB.out
          have hnc91 := eA.out
          have hcz92_0 : w79.cell? ⟨bA, 0, none⟩ = some (.int J 0) := (Xd yA.out 0).trans rfl
          have hcz92_1 : w79.cell? ⟨bA, 1, none⟩ = some (.int J 0) := (Xd yA.out 1).trans rfl
          have hcz92_2 : w79.cell? ⟨bA, 2, none⟩ = some (.int J 0) := (Xd yA.out 2).trans rfl
          have hcz92_3 : w79.cell? ⟨bA, 3, none⟩ = some (.int J 0) := (Xd yA.out 3).trans rfl
          have hfz92_0 := Xi yA.out 0
          have hfz92_1 := Xi yA.out 1
          have hfz92_2 := Xi yA.out 2
          have hfz92_3 := Xi yA.out 3
          try go_wp2
          have n0_ : Xm (Kd.R k27 27 ((((((((((w79.setCell ⟨gA, 0, none⟩ (.int J a0_0)).setCell ⟨gA, 1, none⟩ (.int J a0_1)).setCell ⟨gA, 2, none⟩ (.int J a0_2)).setCell ⟨gA, 3, none⟩ (.int J a0_3)).setCell ⟨bA, 0, none⟩ (.int J a0_0)).setCell ⟨bA, 1, none⟩ (.int J a0_1)).setCell ⟨bA, 2, none⟩ (.int J a0_2)).setCell ⟨bA, 3, none⟩ (.int J a0_3)).setCell ⟨gA, 2, none⟩ (.int J a2)).setCell ⟨bA, 0, none⟩ (.int J a2)) w.heap.size (fun k_ => k_ ≠ vA ∧ k_ ≠ gA ∧ k_ ≠ bA) v139 t138) := ⟨by (with_reducible repeat (first | apply Kd.R_alloc | apply Kd.R_drewN | apply Kd.R_drew)); exact Kd.R_mono (Kd.R_far (p := ⟨bA, 0, none⟩) (Kd.R_far (p := ⟨gA, 2, none⟩) (Kd.R_far (p := ⟨bA, 3, none⟩) (Kd.R_far (p := ⟨bA, 2, none⟩) (Kd.R_far (p := ⟨bA, 1, none⟩) (Kd.R_far (p := ⟨bA, 0, none⟩) (Kd.R_far (p := ⟨gA, 3, none⟩) (Kd.R_far (p := ⟨gA, 2, none⟩) (Kd.R_far (p := ⟨gA, 1, none⟩) (Kd.R_far (p := ⟨gA, 0, none⟩) (Kd.R_mono (Kd.R_mono gB.out (fun k_ hk => (⟨hk, hk.2.1⟩ : _ ∧ k_ ≠ gA))) (fun k_ hk => (⟨hk, hk.1.2.2⟩ : _ ∧ k_ ≠ bA))) (fun _ hk => hk.1.2) (.int J a0_0)) (fun _ hk => hk.1.2) (.int J a0_1)) (fun _ hk => hk.1.2) (.int J a0_2)) (fun _ hk => hk.1.2) (.int J a0_3)) (fun _ hk => hk.2) (.int J a0_0)) (fun _ hk => hk.2) (.int J a0_1)) (fun _ hk => hk.2) (.int J a0_2)) (fun _ hk => hk.2) (.int J a0_3)) (fun _ hk => hk.1.2) (.int J a2)) (fun _ hk => hk.2) (.int J a2)) (fun _ hk => ⟨hk.1.1.1, ⟨hk.1.1.2.1, hk.1.1.2.2⟩⟩)⟩
          have n1_ : Xm (((((((((((w79.setCell ⟨gA, 0, none⟩ (.int J a0_0)).setCell ⟨gA, 1, none⟩ (.int J a0_1)).setCell ⟨gA, 2, none⟩ (.int J a0_2)).setCell ⟨gA, 3, none⟩ (.int J a0_3)).setCell ⟨bA, 0, none⟩ (.int J a0_0)).setCell ⟨bA, 1, none⟩ (.int J a0_1)).setCell ⟨bA, 2, none⟩ (.int J a0_2)).setCell ⟨bA, 3, none⟩ (.int J a0_3)).setCell ⟨gA, 2, none⟩ (.int J a2)).setCell ⟨bA, 0, none⟩ (.int J a2)).heap[vA]? = some (.cells #[.int J a0_0, .int J a0_1, .int J a0_2, .int J a0_3] 27 (0, 0))) := ⟨by (with_reducible repeat (first | refine Xf ?_ _ | refine Xe ?_ | refine Xg ?_ _)); refine Xl ?_ eA.out _; (with_reducible repeat (first | refine Xf ?_ _ | refine Xe ?_ | refine Xg ?_ _)); refine Xl ?_ uA.out _; (with_reducible repeat (first | refine Xf ?_ _ | refine Xe ?_ | refine Xg ?_ _)); refine Xl ?_ eA.out _; (with_reducible repeat (first | refine Xf ?_ _ | refine Xe ?_ | refine Xg ?_ _)); refine Xl ?_ eA.out _; (with_reducible repeat (first | refine Xf ?_ _ | refine Xe ?_ | refine Xg ?_ _)); refine Xl ?_ eA.out _; (with_reducible repeat (first | refine Xf ?_ _ | refine Xe ?_ | refine Xg ?_ _)); refine Xl ?_ eA.out _; (with_reducible repeat (first | refine Xf ?_ _ | refine Xe ?_ | refine Xg ?_ _)); refine Xl ?_ uA.out _; (with_reducible repeat (first | refine Xf ?_ _ | refine Xe ?_ | refine Xg ?_ _)); refine Xl ?_ uA.out _; (with_reducible repeat (first | refine Xf ?_ _ | refine Xe ?_ | refine Xg ?_ _)); refine Xl ?_ uA.out _; (with_reducible repeat (first | refine Xf ?_ _ | refine Xe ?_ | refine Xg ?_ _)); refine Xl ?_ uA.out _; (with_reducible repeat (first | refine Xf ?_ _ | refine Xe ?_ | refine Xg ?_ _)); exact nA.out⟩
          have n2_ : Xm (((((((((((w79.setCell ⟨gA, 0, none⟩ (.int J a0_0)).setCell ⟨gA, 1, none⟩ (.int J a0_1)).setCell ⟨gA, 2, none⟩ (.int J a0_2)).setCell ⟨gA, 3, none⟩ (.int J a0_3)).setCell ⟨bA, 0, none⟩ (.int J a0_0)).setCell ⟨bA, 1, none⟩ (.int J a0_1)).setCell ⟨bA, 2, none⟩ (.int J a0_2)).setCell ⟨bA, 3, none⟩ (.int J a0_3)).setCell ⟨gA, 2, none⟩ (.int J a2)).setCell ⟨bA, 0, none⟩ (.int J a2)).heap[gA]? = some (.cells #[.int J a0_0, .int J a0_1, .int J a2, .int J a0_3] 27 (0, 0))) := ⟨by (with_reducible repeat (first | refine Xf ?_ _ | refine Xe ?_ | refine Xg ?_ _)); refine Xl ?_ zA.out _; (with_reducible repeat (first | refine Xf ?_ _ | refine Xe ?_ | refine Xg ?_ _)); refine Xr (cs := #[.int J a0_0, .int J a0_1, .int J a0_2, .int J a0_3]) ?_ 2 _ rfl; (with_reducible repeat (first | refine Xf ?_ _ | refine Xe ?_ | refine Xg ?_ _)); refine Xl ?_ zA.out _; (with_reducible repeat (first | refine Xf ?_ _ | refine Xe ?_ | refine Xg ?_ _)); refine Xl ?_ zA.out _; (with_reducible repeat (first | refine Xf ?_ _ | refine Xe ?_ | refine Xg ?_ _)); refine Xl ?_ zA.out _; (with_reducible repeat (first | refine Xf ?_ _ | refine Xe ?_ | refine Xg ?_ _)); refine Xl ?_ zA.out _; (with_reducible repeat (first | refine Xf ?_ _ | refine Xe ?_ | refine Xg ?_ _)); refine Xr (cs := #[.int J a0_0, .int J a0_1, .int J a0_2, .int J 0]) ?_ 3 _ rfl; (with_reducible repeat (first | refine Xf ?_ _ | refine Xe ?_ | refine Xg ?_ _)); refine Xr (cs := #[.int J a0_0, .int J a0_1, .int J 0, .int J 0]) ?_ 2 _ rfl; (with_reducible repeat (first | refine Xf ?_ _ | refine Xe ?_ | refine Xg ?_ _)); refine Xr (cs := #[.int J a0_0, .int J 0, .int J 0, .int J 0]) ?_ 1 _ rfl; (with_reducible repeat (first | refine Xf ?_ _ | refine Xe ?_ | refine Xg ?_ _)); refine Xr (cs := #[.int J 0, .int J 0, .int J 0, .int J 0]) ?_ 0 _ rfl; (with_reducible repeat (first | refine Xf ?_ _ | refine Xe ?_ | refine Xg ?_ _)); exact xA.out⟩
          have n3_ : Xm (((((((((((w79.setCell ⟨gA, 0, none⟩ (.int J a0_0)).setCell ⟨gA, 1, none⟩ (.int J a0_1)).setCell ⟨gA, 2, none⟩ (.int J a0_2)).setCell ⟨gA, 3, none⟩ (.int J a0_3)).setCell ⟨bA, 0, none⟩ (.int J a0_0)).setCell ⟨bA, 1, none⟩ (.int J a0_1)).setCell ⟨bA, 2, none⟩ (.int J a0_2)).setCell ⟨bA, 3, none⟩ (.int J a0_3)).setCell ⟨gA, 2, none⟩ (.int J a2)).setCell ⟨bA, 0, none⟩ (.int J a2)).heap[bA]? = some (.cells #[.int J a2, .int J a0_1, .int J a0_2, .int J a0_3] 27 (0, 0))) := ⟨by (with_reducible repeat (first | refine Xf ?_ _ | refine Xe ?_ | refine Xg ?_ _)); refine Xr (cs := #[.int J a0_0, .int J a0_1, .int J a0_2, .int J a0_3]) ?_ 0 _ rfl; (with_reducible repeat (first | refine Xf ?_ _ | refine Xe ?_ | refine Xg ?_ _)); refine Xl ?_ qA.out _; (with_reducible repeat (first | refine Xf ?_ _ | refine Xe ?_ | refine Xg ?_ _)); refine Xr (cs := #[.int J a0_0, .int J a0_1, .int J a0_2, .int J 0]) ?_ 3 _ rfl; (with_reducible repeat (first | refine Xf ?_ _ | refine Xe ?_ | refine Xg ?_ _)); refine Xr (cs := #[.int J a0_0, .int J a0_1, .int J 0, .int J 0]) ?_ 2 _ rfl; (with_reducible repeat (first | refine Xf ?_ _ | refine Xe ?_ | refine Xg ?_ _)); refine Xr (cs := #[.int J a0_0, .int J 0, .int J 0, .int J 0]) ?_ 1 _ rfl; (with_reducible repeat (first | refine Xf ?_ _ | refine Xe ?_ | refine Xg ?_ _)); refine Xr (cs := #[.int J 0, .int J 0, .int J 0, .int J 0]) ?_ 0 _ rfl; (with_reducible repeat (first | refine Xf ?_ _ | refine Xe ?_ | refine Xg ?_ _)); refine Xl ?_ qA.out _; (with_reducible repeat (first | refine Xf ?_ _ | refine Xe ?_ | refine Xg ?_ _)); refine Xl ?_ qA.out _; (with_reducible repeat (first | refine Xf ?_ _ | refine Xe ?_ | refine Xg ?_ _)); refine Xl ?_ qA.out _; (with_reducible repeat (first | refine Xf ?_ _ | refine Xe ?_ | refine Xg ?_ _)); refine Xl ?_ qA.out _; (with_reducible repeat (first | refine Xf ?_ _ | refine Xe ?_ | refine Xg ?_ _)); exact yA.out⟩
          have n4_ : Xm (Below w.heap.size w ((((((((((w79.setCell ⟨gA, 0, none⟩ (.int J a0_0)).setCell ⟨gA, 1, none⟩ (.int J a0_1)).setCell ⟨gA, 2, none⟩ (.int J a0_2)).setCell ⟨gA, 3, none⟩ (.int J a0_3)).setCell ⟨bA, 0, none⟩ (.int J a0_0)).setCell ⟨bA, 1, none⟩ (.int J a0_1)).setCell ⟨bA, 2, none⟩ (.int J a0_2)).setCell ⟨bA, 3, none⟩ (.int J a0_3)).setCell ⟨gA, 2, none⟩ (.int J a2)).setCell ⟨bA, 0, none⟩ (.int J a2))) := ⟨by repeat (first | (with_reducible first | exact HB.out | apply below_alloc | apply Xw | apply Xs | refine Xt ?_ yB.out | refine Xt ?_ uB.out | refine Xt ?_ eB.out) | exact HB.out)⟩
          (try clear gB)
          (try clear nA)
          (try clear xA)
          (try clear yA)
          (try clear HB)
          generalize ((((((((((w79.setCell ⟨gA, 0, none⟩ (.int J a0_0)).setCell ⟨gA, 1, none⟩ (.int J a0_1)).setCell ⟨gA, 2, none⟩ (.int J a0_2)).setCell ⟨gA, 3, none⟩ (.int J a0_3)).setCell ⟨bA, 0, none⟩ (.int J a0_0)).setCell ⟨bA, 1, none⟩ (.int J a0_1)).setCell ⟨bA, 2, none⟩ (.int J a0_2)).setCell ⟨bA, 3, none⟩ (.int J a0_3)).setCell ⟨gA, 2, none⟩ (.int J a2)).setCell ⟨bA, 0, none⟩ (.int J a2)) = w93 at n0_ n1_ n2_ n3_ n4_ ⊢
          have gB := n0_
          have nA := n1_
          have xA := n2_
          have yA := n3_
          have HB := n4_
          clear n0_ n1_ n2_ n3_ n4_
          have n0_ := Za (Kd.R_drew gB.out)
          have n1_ := Za (Xe nA.out)
          have n2_ := Za (Xe xA.out)
          have n3_ := Za (Xe yA.out)
          have n4_ := Za (Xs HB.out)
          clear gB
          clear nA
          clear xA
          clear yA
          clear HB
          have gB := n0_
          have nA := n1_
          have xA := n2_
          have yA := n3_
          have HB := n4_
          clear n0_ n1_ n2_ n3_ n4_
          obtain ⟨Ao95, co95, eo95⟩ := Kd.R_slice gB.out
          (first | subst eo95 | (injection eo95 with f1_ f2_ f3_; have f4_ := f1_.symm; have f5_ := f3_.symm; clear f1_ f2_ f3_; subst f4_; subst f5_))
          refine start_ (n := 18) (S := fun w' => True) (ds := []) #[Zf,Zf,Zf,Zf,Zf,Zf,Zf,Zf,Zf,Zf,Zf,Zf,Zf,Zf,Zf,Zf,Zf,Zf] (by kernel_rfl) rfl rfl trivial (fun hHeld => ?_); refine with_tabW gatherumlaw04_BoxSplits.tab17 gatherumlaw04_BoxSplits.bits17 (fun HT_ HW_ => ?_)
          generalize w93.drew = w94 at gB nA xA yA HB hHeld ⊢
          refine Xo (i := 0) (N := some 61) (v := ?_) (a' := ?_) #[Zt,Zf,Zf,Zf,Zf,Zf,Zf,Zf,Zf,Zf,Zf,Zf,Zf,Zf,Zf,Zf,Zf,Zf] rfl rfl (Xn HT_.out (by kernel_rfl)) (fun _ _ _ h => h) (Or.inl ⟨by rfl, ?_⟩) ?_ ?_
          rotate_left
          ·intro w'
           go_simp
           with_reducible rfl
          rotate_left
          ·simp only [Act.put, Xa, Xb, Xc, Xj, Xk]
           rfl
          refine Xo (i := 1) (N := some 62) (v := ?_) (a' := ?_) #[Zt,Zt,Zf,Zf,Zf,Zf,Zf,Zf,Zf,Zf,Zf,Zf,Zf,Zf,Zf,Zf,Zf,Zf] rfl rfl (Xn HT_.out (by kernel_rfl)) (fun _ _ _ h => h) (Or.inl ⟨by rfl, ?_⟩) ?_ ?_
          rotate_left
          ·intro w'
           go_simp
           with_reducible rfl
          rotate_left
          ·simp only [Act.put, Xa, Xb, Xc, Xj, Xk]
           rfl
          refine Xo (i := 2) (N := some 63) (v := ?_) (a' := ?_) #[Zt,Zt,Zt,Zf,Zf,Zf,Zf,Zf,Zf,Zf,Zf,Zf,Zf,Zf,Zf,Zf,Zf,Zf] rfl rfl (Xn HT_.out (by kernel_rfl)) (fun _ _ _ h => h) (Or.inl ⟨by rfl, ?_⟩) ?_ ?_
          rotate_left
          ·intro w'
           go_simp
           with_reducible rfl
          rotate_left
          ·simp only [Act.put, Xa, Xb, Xc, Xj, Xk]
           rfl
          refine Xo (i := 3) (N := some 64) (v := ?_) (a' := ?_) #[Zt,Zt,Zt,Zt,Zf,Zf,Zf,Zf,Zf,Zf,Zf,Zf,Zf,Zf,Zf,Zf,Zf,Zf] rfl rfl (Xn HT_.out (by kernel_rfl)) (fun _ _ _ h => h) (Or.inl ⟨by rfl, ?_⟩) ?_ ?_
          rotate_left
          ·intro w'
           go_simp
           with_reducible rfl
          rotate_left
          ·simp only [Act.put, Xa, Xb, Xc, Xj, Xk]
           rfl
          refine Xo (i := 4) (N := some 65) (v := undef) (a' := ?_) #[Zt,Zt,Zt,Zt,Zt,Zf,Zf,Zf,Zf,Zf,Zf,Zf,Zf,Zf,Zf,Zf,Zf,Zf] rfl rfl (Xn HT_.out (by kernel_rfl)) (fun _ _ _ h => h) (Or.inr ⟨by rfl, rfl⟩) ?_ ?_
          rotate_left
          ·simp only [Act.put, Xa, Xb, Xc, Xj, Xk]
           rfl
          refine Xo (i := 5) (N := some 66) (v := undef) (a' := ?_) #[Zt,Zt,Zt,Zt,Zt,Zt,Zf,Zf,Zf,Zf,Zf,Zf,Zf,Zf,Zf,Zf,Zf,Zf] rfl rfl (Xn HT_.out (by kernel_rfl)) (fun _ _ _ h => h) (Or.inr ⟨by rfl, rfl⟩) ?_ ?_
          rotate_left
          ·simp only [Act.put, Xa, Xb, Xc, Xj, Xk]
           rfl
          refine Xo (i := 6) (N := some 67) (v := undef) (a' := ?_) #[Zt,Zt,Zt,Zt,Zt,Zt,Zt,Zf,Zf,Zf,Zf,Zf,Zf,Zf,Zf,Zf,Zf,Zf] rfl rfl (Xn HT_.out (by kernel_rfl)) (fun _ _ _ h => h) (Or.inr ⟨by rfl, rfl⟩) ?_ ?_
          rotate_left
          ·simp only [Act.put, Xa, Xb, Xc, Xj, Xk]
           rfl
          refine Xo (i := 7) (N := some 68) (v := undef) (a' := ?_) #[Zt,Zt,Zt,Zt,Zt,Zt,Zt,Zt,Zf,Zf,Zf,Zf,Zf,Zf,Zf,Zf,Zf,Zf] rfl rfl (Xn HT_.out (by kernel_rfl)) (fun _ _ _ h => h) (Or.inr ⟨by rfl, rfl⟩) ?_ ?_
          rotate_left
          ·simp only [Act.put, Xa, Xb, Xc, Xj, Xk]
           rfl
          refine Xo (i := 8) (N := some 69) (v := undef) (a' := ?_) #[Zt,Zt,Zt,Zt,Zt,Zt,Zt,Zt,Zt,Zf,Zf,Zf,Zf,Zf,Zf,Zf,Zf,Zf] rfl rfl (Xn HT_.out (by kernel_rfl)) (fun _ _ _ h => h) (Or.inr ⟨by rfl, rfl⟩) ?_ ?_
          rotate_left
          ·simp only [Act.put, Xa, Xb, Xc, Xj, Xk]
           rfl
          refine Xo (i := 9) (N := some 70) (v := ?_) (a' := ?_) #[Zt,Zt,Zt,Zt,Zt,Zt,Zt,Zt,Zt,Zt,Zf,Zf,Zf,Zf,Zf,Zf,Zf,Zf] rfl rfl (Xn HT_.out (by kernel_rfl)) (fun _ _ _ h => h) (Or.inl ⟨by rfl, ?_⟩) ?_ ?_
          rotate_left
          ·intro w'
           go_simp
           with_reducible rfl
          rotate_left
          ·simp only [Act.put, Xa, Xb, Xc, Xj, Xk]
           rfl
          refine Xo (i := 10) (N := some 71) (v := ?_) (a' := ?_) #[Zt,Zt,Zt,Zt,Zt,Zt,Zt,Zt,Zt,Zt,Zt,Zf,Zf,Zf,Zf,Zf,Zf,Zf] rfl rfl (Xn HT_.out (by kernel_rfl)) (fun _ _ _ h => h) (Or.inl ⟨by rfl, ?_⟩) ?_ ?_
          rotate_left
          ·intro w'
           go_simp
           with_reducible rfl
          rotate_left
          ·simp only [Act.put, Xa, Xb, Xc, Xj, Xk]
           rfl
          refine Xo (i := 11) (N := some 72) (v := undef) (a' := ?_) #[Zt,Zt,Zt,Zt,Zt,Zt,Zt,Zt,Zt,Zt,Zt,Zt,Zf,Zf,Zf,Zf,Zf,Zf] rfl rfl (Xn HT_.out (by kernel_rfl)) (fun _ _ _ h => h) (Or.inr ⟨by rfl, rfl⟩) ?_ ?_
          rotate_left
          ·simp only [Act.put, Xa, Xb, Xc, Xj, Xk]
           rfl
          refine Xo (i := 12) (N := some 73) (v := undef) (a' := ?_) #[Zt,Zt,Zt,Zt,Zt,Zt,Zt,Zt,Zt,Zt,Zt,Zt,Zt,Zf,Zf,Zf,Zf,Zf] rfl rfl (Xn HT_.out (by kernel_rfl)) (fun _ _ _ h => h) (Or.inr ⟨by rfl, rfl⟩) ?_ ?_
          rotate_left
          ·simp only [Act.put, Xa, Xb, Xc, Xj, Xk]
           rfl
          refine Xo (i := 13) (N := some 74) (v := undef) (a' := ?_) #[Zt,Zt,Zt,Zt,Zt,Zt,Zt,Zt,Zt,Zt,Zt,Zt,Zt,Zt,Zf,Zf,Zf,Zf] rfl rfl (Xn HT_.out (by kernel_rfl)) (fun _ _ _ h => h) (Or.inr ⟨by rfl, rfl⟩) ?_ ?_
          rotate_left
          ·simp only [Act.put, Xa, Xb, Xc, Xj, Xk]
           rfl
          refine Xo (i := 14) (N := some 75) (v := undef) (a' := ?_) #[Zt,Zt,Zt,Zt,Zt,Zt,Zt,Zt,Zt,Zt,Zt,Zt,Zt,Zt,Zt,Zf,Zf,Zf] rfl rfl (Xn HT_.out (by kernel_rfl)) (fun _ _ _ h => h) (Or.inr ⟨by rfl, rfl⟩) ?_ ?_
          rotate_left
          ·simp only [Act.put, Xa, Xb, Xc, Xj, Xk]
           rfl
          refine Xo (i := 15) (N := some 76) (v := undef) (a' := ?_) #[Zt,Zt,Zt,Zt,Zt,Zt,Zt,Zt,Zt,Zt,Zt,Zt,Zt,Zt,Zt,Zt,Zf,Zf] rfl rfl (Xn HT_.out (by kernel_rfl)) (fun _ _ _ h => h) (Or.inr ⟨by rfl, rfl⟩) ?_ ?_
          rotate_left
          ·simp only [Act.put, Xa, Xb, Xc, Xj, Xk]
           rfl
          refine Xo (i := 16) (N := some 77) (v := ?_) (a' := ?_) #[Zt,Zt,Zt,Zt,Zt,Zt,Zt,Zt,Zt,Zt,Zt,Zt,Zt,Zt,Zt,Zt,Zt,Zf] rfl rfl (Xn HT_.out (by kernel_rfl)) (fun _ _ _ h => h) (Or.inl ⟨by rfl, ?_⟩) ?_ ?_
          rotate_left
          ·intro w'
           go_simp
           with_reducible rfl
          rotate_left
          ·simp only [Act.put, Xa, Xb, Xc, Xj, Xk]
           rfl
          refine Xo (i := 17) (N := some 6) (v := ?_) (a' := ?_) #[Zt,Zt,Zt,Zt,Zt,Zt,Zt,Zt,Zt,Zt,Zt,Zt,Zt,Zt,Zt,Zt,Zt,Zt] rfl rfl (Xn HT_.out (by kernel_rfl)) (fun _ _ _ h => h) (Or.inl ⟨by rfl, ?_⟩) ?_ ?_
          rotate_left
          ·intro w'
           go_simp
           with_reducible rfl
          rotate_left
          ·simp only [Act.put, Xa, Xb, Xc, Xj, Xk]
           rfl
          refine done_ (done_of HT_.out (by kernel_rfl)) ?_
          try go_wp2
          go_ret
          exact ⟨by first | rfl | (simp [errW_none, errW_some] <;> rfl) | (simp [*, errW_none, errW_some] <;> rfl), by repeat (first | (with_reducible first | exact HB.out | apply below_alloc | apply Xw | apply Xs | refine Xt ?_ yB.out | refine Xt ?_ uB.out | refine Xt ?_ eB.out) | exact HB.out)⟩
        ·replace c31 := Bool.eq_false_iff.mpr c31
         subst c31
         have H1 : (if (t138.length : Int) = 2 then (if 0 < (t138.length : Int) then (if (((rd_T27 t138 0).f0) == a0_0 && (((rd_T27 t138 0).f1) == a0_1 && (((rd_T27 t138 0).f2) == a0_2 && (((rd_T27 t138 0).f3) == a2)))) = Zt then (if 1 < (t138.length : Int) then (some (((rd_T27 t138 1).f0) == a0_0 && (((rd_T27 t138 1).f1) == a2 && (((rd_T27 t138 1).f2) == a0_2 && (((rd_T27 t138 1).f3) == a0_3))))) else (none)) else (some Zf)) else (none)) else (some Zf)) = some r := by rw [if_neg (show ¬ (Zf = Zt) by decide)] at H; exact H
         clear H
         have H := H1
         clear H1
         by_cases c96 : (t138.length : Int) = 2
         ·rw [if_pos c96] at H
          have c96b0 : ((t138.length : Int) == 2) = Zt := beq_iff_eq.mpr c96
          have c96b1 : ((t138.length : Int) != 2) = Zf := bne_eq_false_iff_eq.mpr c96
          clear c96
          by_cases c97 : 0 < (t138.length : Int)
          ·rw [if_pos c97] at H
           have c97b0 : decide (0 < (t138.length : Int)) = Zt := decide_eq_true c97
           have c97b1 : decide (0 < t138.length) = Zt := decide_eq_true (by omega)
           clear c97
           by_cases c98 : (((rd_T27 t138 0).f0) == a0_0 && (((rd_T27 t138 0).f1) == a0_1 && (((rd_T27 t138 0).f2) == a0_2 && (((rd_T27 t138 0).f3) == a2)))) = Zt
           ·rw [if_pos c98] at H
            have c98b0 : (((rd_T27 t138 0).f0) == a0_0 && (((rd_T27 t138 0).f1) == a0_1 && (((rd_T27 t138 0).f2) == a0_2 && (((rd_T27 t138 0).f3) == a2)))) = Zt := c98
            (try (have c98b1 : decide (((rd_T27 t138 0).f0) = a0_0 && (((rd_T27 t138 0).f1) == a0_1 && (((rd_T27 t138 0).f2) == a0_2 && (((rd_T27 t138 0).f3) == a2)))) = Zt := by simpa using c98))
            (try (have c98b2 : (((rd_T27 t138 0).f0) == a0_0 && (((rd_T27 t138 0).f1) == a0_1 && (((rd_T27 t138 0).f2) == a0_2 && (((rd_T27 t138 0).f3) == a2)))) = Zt := by simpa using c98))
            clear c98
            by_cases c99 : 1 < (t138.length : Int)
            ·rw [if_pos c99] at H
             have c99b0 : decide (1 < (t138.length : Int)) = Zt := decide_eq_true c99
             have c99b1 : decide (1 < t138.length) = Zt := decide_eq_true (by omega)
             clear c99
             obtain rfl := Option.some.inj H
             try go_wp2
             have n0_ := Za (Kd.R_drew gB.out)
             have n1_ := Za (Xe nA.out)
             have n2_ := Za (Xs HB.out)
             clear gB
             clear nA
             clear HB
             have gB := n0_
             have nA := n1_
             have HB := n2_
             clear n0_ n1_ n2_
             refine start_ (n := 6) (S := fun w' => w'.cell? ⟨vA, 0, none⟩ = some (.int J a0_0) ∧ w'.cell? ⟨vA, 1, none⟩ = some (.int J a0_1) ∧ w'.cell? ⟨vA, 2, none⟩ = some (.int J a0_2) ∧ w'.cell? ⟨vA, 3, none⟩ = some (.int J a0_3)) (ds := []) #[Zf,Zf,Zf,Zf,Zf,Zf] (by kernel_rfl) rfl rfl ⟨(Xd nA.out 0).trans rfl, (Xd nA.out 1).trans rfl, (Xd nA.out 2).trans rfl, (Xd nA.out 3).trans rfl⟩ (fun hHeld => ?_)
             generalize wc.drew = w100 at gB nA HB hHeld ⊢
             refine take_ (i := 0) (N := some 50) (v := ?_) (a' := ?_) #[Zt,Zf,Zf,Zf,Zf,Zf] rfl rfl (by kernel_rfl) (fun _ _ _ h => h) (Or.inl ⟨by rfl, ?_⟩) hHeld ?_ ?_
             rotate_left
             ·rintro w' ⟨s0, s1, s2, s3⟩
              go_simp
              with_reducible rfl
             rotate_left
             ·simp only [Act.put, Xa, Xb, Xc, Xj, Xk]
              rfl
             refine take_ (i := 1) (N := some 51) (v := ?_) (a' := ?_) #[Zt,Zt,Zf,Zf,Zf,Zf] rfl rfl (by kernel_rfl) (fun _ _ _ h => h) (Or.inl ⟨by rfl, ?_⟩) hHeld ?_ ?_
             rotate_left
             ·rintro w' ⟨s0, s1, s2, s3⟩
              go_simp
              with_reducible rfl
             rotate_left
             ·simp only [Act.put, Xa, Xb, Xc, Xj, Xk]
              rfl
             refine join_ (σ := Nat × Nat) 2 #[Zt,Zt,Zt,Zt,Zf,Zf] (fun s_ => [(10, .pointer (some ⟨s_.1, 0, none⟩)), (11, .pointer (some ⟨s_.2, 0, none⟩))]) (fun s_ w' => (w'.cell? ⟨vA, 0, none⟩ = some (.int J a0_0) ∧ w'.cell? ⟨vA, 1, none⟩ = some (.int J a0_1) ∧ w'.cell? ⟨vA, 2, none⟩ = some (.int J a0_2) ∧ w'.cell? ⟨vA, 3, none⟩ = some (.int J a0_3)) ∧ (Kd.R k27 27 w' w.heap.size (fun k_ => k_ ≠ vA ∧ k_ ≠ s_.1 ∧ k_ ≠ s_.2) v139 t138) ∧ (w'.heap[vA]? = some (.cells #[.int J a0_0, .int J a0_1, .int J a0_2, .int J a0_3] 27 (0, 0))) ∧ (w'.heap[s_.1]? = some (.cells #[.int J 0, .int J 0, .int J 0, .int J 0] 27 (0, 0))) ∧ (w'.heap[s_.2]? = some (.cells #[.int J 0, .int J 0, .int J 0, .int J 0] 27 (0, 0))) ∧ (w.heap.size ≤ s_.1) ∧ (w.heap.size ≤ s_.1) ∧ (vA ≠ s_.1) ∧ (s_.1 ≠ vA) ∧ (s_.2 ≠ s_.1) ∧ (s_.1 ≠ s_.2) ∧ (w.heap.size ≤ s_.2) ∧ (w.heap.size ≤ s_.2) ∧ (vA ≠ s_.2) ∧ (s_.2 ≠ vA) ∧ (Below w.heap.size w w')) ?_ ?_
             rotate_left
             ·intro hCont
              refine two_ (i := 2) (j := 3) (Ni := some 10) (Nj := some 11) #[Zt,Zt,Zt,Zf,Zf,Zf] #[Zt,Zt,Zf,Zt,Zf,Zf] rfl rfl rfl rfl (by kernel_rfl) (by decide) (by decide) (fun K hK => ?_) (fun K hK => ?_)
              ·skip
               refine box_step ?hg (N := 10) ?hd (cs := #[.int J 0, .int J 0, .int J 0, .int J 0]) (t := 27) ?hr ?_; (case hd => rfl); (case hg => rfl); (case hr => first | (go_simp; done) | (go_simp; rfl))
               intro gA hg w101 hbox hb
               have n0_ := Za (Kd.R_below (Kd.R_elderB (by (with_reducible repeat (first | apply Kd.R_alloc | apply Kd.R_drewN | apply Kd.R_drew)); exact gB.out) gA (Nat.le_of_eq hg.symm)) hb)
               have n1_ := Za (Xu (g := vA) (o := .cells #[.int J a0_0, .int J a0_1, .int J a0_2, .int J a0_3] 27 (0, 0)) (bb_5 nA.out) hb)
               have n2_ := Za (Xv (hb_5 HB.out) hb)
               have n3_ := Za (hbox)
               have n4_ := Za ((by rw [hg]; exact (Xp (hb_5 HB.out)) : w.heap.size ≤ gA))
               have n5_ := Za ((by rw [hg]; exact (Xp (hb_5 HB.out)) : w.heap.size ≤ gA))
               have n6_ := Za ((by rw [hg]; exact Nat.ne_of_lt (Xq (g := vA) (o := .cells #[.int J a0_0, .int J a0_1, .int J a0_2, .int J a0_3] 27 (0, 0)) (bb_5 nA.out)) : vA ≠ gA))
               have n7_ := Za ((by rw [hg]; exact Nat.ne_of_gt (Xq (g := vA) (o := .cells #[.int J a0_0, .int J a0_1, .int J a0_2, .int J a0_3] 27 (0, 0)) (bb_5 nA.out)) : gA ≠ vA))
               clear gB
               clear nA
               clear HB
               have gB := n0_
               have nA := n1_
               have HB := n2_
               have xA := n3_
               have vB := n4_
               have uB := n5_
               have uA := n6_
               have bB := n7_
               clear n0_ n1_ n2_ n3_ n4_ n5_ n6_ n7_
               clear hb hbox hg
               refine hK.out _ _ ⟨(Xd nA.out 0).trans rfl, (Xd nA.out 1).trans rfl, (Xd nA.out 2).trans rfl, (Xd nA.out 3).trans rfl⟩ (fun hHeld => ?_)
               clear hK K
               refine norm_ (a' := ?_) ?_ ?_
               rotate_left
               ·show Act.put _ (some 10) _ = _
                simp only [Act.put, Xa, Xb, Xc, Xj, Xk]
                rfl
               refine one_ (i := 3) (N := some 11) #[Zt,Zt,Zt,Zt,Zf,Zf] rfl rfl (by kernel_rfl) (by decide) (fun K hK => ?_)
               refine box_step ?hg (N := 11) ?hd (cs := #[.int J 0, .int J 0, .int J 0, .int J 0]) (t := 27) ?hr ?_; (case hd => rfl); (case hg => rfl); (case hr => first | (go_simp; done) | (go_simp; rfl))
               intro bA hg w102 hbox hb
               have n0_ := Za (Kd.R_below (Kd.R_elderB (by (with_reducible repeat (first | apply Kd.R_alloc | apply Kd.R_drewN | apply Kd.R_drew)); exact gB.out) bA (Nat.le_of_eq hg.symm)) hb)
               have n1_ := Za (Xu (g := vA) (o := .cells #[.int J a0_0, .int J a0_1, .int J a0_2, .int J a0_3] 27 (0, 0)) (bb_5 nA.out) hb)
               have n2_ := Za (Xu (g := gA) (o := .cells #[.int J 0, .int J 0, .int J 0, .int J 0] 27 (0, 0)) (bb_5 xA.out) hb)
               have n3_ := Za (Xv (hb_5 HB.out) hb)
               have n4_ := Za (hbox)
               have n5_ := Za ((by rw [hg]; exact (Xp (hb_5 HB.out)) : w.heap.size ≤ bA))
               have n6_ := Za ((by rw [hg]; exact (Xp (hb_5 HB.out)) : w.heap.size ≤ bA))
               have n7_ := Za ((by rw [hg]; exact Nat.ne_of_lt (Xq (g := vA) (o := .cells #[.int J a0_0, .int J a0_1, .int J a0_2, .int J a0_3] 27 (0, 0)) (bb_5 nA.out)) : vA ≠ bA))
               have n8_ := Za ((by rw [hg]; exact Nat.ne_of_gt (Xq (g := vA) (o := .cells #[.int J a0_0, .int J a0_1, .int J a0_2, .int J a0_3] 27 (0, 0)) (bb_5 nA.out)) : bA ≠ vA))
               have n9_ := Za ((by rw [hg]; exact Nat.ne_of_lt (Xq (g := gA) (o := .cells #[.int J 0, .int J 0, .int J 0, .int J 0] 27 (0, 0)) (bb_5 xA.out)) : gA ≠ bA))
               have n10_ := Za ((by rw [hg]; exact Nat.ne_of_gt (Xq (g := gA) (o := .cells #[.int J 0, .int J 0, .int J 0, .int J 0] 27 (0, 0)) (bb_5 xA.out)) : bA ≠ gA))
               clear gB
               clear nA
               clear xA
               clear HB
               have gB := n0_
               have nA := n1_
               have xA := n2_
               have HB := n3_
               have yA := n4_
               have xB := n5_
               have eB := n6_
               have eA := n7_
               have nB := n8_
               have zA := n9_
               have qA := n10_
               clear n0_ n1_ n2_ n3_ n4_ n5_ n6_ n7_ n8_ n9_ n10_
               clear hb hbox hg
               refine hK.out _ _ ⟨(Xd nA.out 0).trans rfl, (Xd nA.out 1).trans rfl, (Xd nA.out 2).trans rfl, (Xd nA.out 3).trans rfl⟩ (fun hHeld => ?_)
               clear hK K
               refine norm_ (a' := ?_) ?_ ?_
               rotate_left
               ·show Act.put _ (some 11) _ = _
                simp only [Act.put, Xa, Xb, Xc, Xj, Xk]
                rfl
               exact norm_ (by simp only [putAll, Act.put, Xa, Xb, Xc]) (hCont (gA, bA) _ ⟨hHeld, (by (with_reducible repeat (first | apply Kd.R_alloc | apply Kd.R_drewN | apply Kd.R_drew)); exact Kd.R_mono gB.out (fun _ hk => ⟨hk.1.1, ⟨hk.1.2, hk.2⟩⟩)), (bb_5 nA.out), (bb_5 xA.out), (bb_5 yA.out), vB.out, uB.out, uA.out, bB.out, qA.out, zA.out, xB.out, eB.out, eA.out, nB.out, (hb_5 HB.out)⟩)
              ·skip
               refine box_step ?hg (N := 11) ?hd (cs := #[.int J 0, .int J 0, .int J 0, .int J 0]) (t := 27) ?hr ?_; (case hd => rfl); (case hg => rfl); (case hr => first | (go_simp; done) | (go_simp; rfl))
               intro bA hg w101 hbox hb
               have n0_ := Za (Kd.R_below (Kd.R_elderB (by (with_reducible repeat (first | apply Kd.R_alloc | apply Kd.R_drewN | apply Kd.R_drew)); exact gB.out) bA (Nat.le_of_eq hg.symm)) hb)
               have n1_ := Za (Xu (g := vA) (o := .cells #[.int J a0_0, .int J a0_1, .int J a0_2, .int J a0_3] 27 (0, 0)) (bb_5 nA.out) hb)
               have n2_ := Za (Xv (hb_5 HB.out) hb)
               have n3_ := Za (hbox)
               have n4_ := Za ((by rw [hg]; exact (Xp (hb_5 HB.out)) : w.heap.size ≤ bA))
               have n5_ := Za ((by rw [hg]; exact (Xp (hb_5 HB.out)) : w.heap.size ≤ bA))
               have n6_ := Za ((by rw [hg]; exact Nat.ne_of_lt (Xq (g := vA) (o := .cells #[.int J a0_0, .int J a0_1, .int J a0_2, .int J a0_3] 27 (0, 0)) (bb_5 nA.out)) : vA ≠ bA))
               have n7_ := Za ((by rw [hg]; exact Nat.ne_of_gt (Xq (g := vA) (o := .cells #[.int J a0_0, .int J a0_1, .int J a0_2, .int J a0_3] 27 (0, 0)) (bb_5 nA.out)) : bA ≠ vA))
               clear gB
               clear nA
               clear HB
               have gB := n0_
               have nA := n1_
               have HB := n2_
               have yA := n3_
               have xB := n4_
               have eB := n5_
               have eA := n6_
               have nB := n7_
               clear n0_ n1_ n2_ n3_ n4_ n5_ n6_ n7_
               clear hb hbox hg
               refine hK.out _ _ ⟨(Xd nA.out 0).trans rfl, (Xd nA.out 1).trans rfl, (Xd nA.out 2).trans rfl, (Xd nA.out 3).trans rfl⟩ (fun hHeld => ?_)
               clear hK K
               refine norm_ (a' := ?_) ?_ ?_
               rotate_left
               ·show Act.put _ (some 11) _ = _
                simp only [Act.put, Xa, Xb, Xc, Xj, Xk]
                rfl
               refine one_ (i := 2) (N := some 10) #[Zt,Zt,Zt,Zt,Zf,Zf] rfl rfl (by kernel_rfl) (by decide) (fun K hK => ?_)
               refine box_step ?hg (N := 10) ?hd (cs := #[.int J 0, .int J 0, .int J 0, .int J 0]) (t := 27) ?hr ?_; (case hd => rfl); (case hg => rfl); (case hr => first | (go_simp; done) | (go_simp; rfl))
               intro gA hg w102 hbox hb
               have n0_ := Za (Kd.R_below (Kd.R_elderB (by (with_reducible repeat (first | apply Kd.R_alloc | apply Kd.R_drewN | apply Kd.R_drew)); exact gB.out) gA (Nat.le_of_eq hg.symm)) hb)
               have n1_ := Za (Xu (g := vA) (o := .cells #[.int J a0_0, .int J a0_1, .int J a0_2, .int J a0_3] 27 (0, 0)) (bb_5 nA.out) hb)
               have n2_ := Za (Xu (g := bA) (o := .cells #[.int J 0, .int J 0, .int J 0, .int J 0] 27 (0, 0)) (bb_5 yA.out) hb)
               have n3_ := Za (Xv (hb_5 HB.out) hb)
               have n4_ := Za (hbox)
               have n5_ := Za ((by rw [hg]; exact (Xp (hb_5 HB.out)) : w.heap.size ≤ gA))
               have n6_ := Za ((by rw [hg]; exact (Xp (hb_5 HB.out)) : w.heap.size ≤ gA))
               have n7_ := Za ((by rw [hg]; exact Nat.ne_of_lt (Xq (g := vA) (o := .cells #[.int J a0_0, .int J a0_1, .int J a0_2, .int J a0_3] 27 (0, 0)) (bb_5 nA.out)) : vA ≠ gA))
               have n8_ := Za ((by rw [hg]; exact Nat.ne_of_gt (Xq (g := vA) (o := .cells #[.int J a0_0, .int J a0_1, .int J a0_2, .int J a0_3] 27 (0, 0)) (bb_5 nA.out)) : gA ≠ vA))
               have n9_ := Za ((by rw [hg]; exact Nat.ne_of_lt (Xq (g := bA) (o := .cells #[.int J 0, .int J 0, .int J 0, .int J 0] 27 (0, 0)) (bb_5 yA.out)) : bA ≠ gA))
               have n10_ := Za ((by rw [hg]; exact Nat.ne_of_gt (Xq (g := bA) (o := .cells #[.int J 0, .int J 0, .int J 0, .int J 0] 27 (0, 0)) (bb_5 yA.out)) : gA ≠ bA))
               clear gB
               clear nA
               clear yA
               clear HB
               have gB := n0_
               have nA := n1_
               have yA := n2_
               have HB := n3_
               have xA := n4_
               have vB := n5_
               have uB := n6_
               have uA := n7_
               have bB := n8_
               have qA := n9_
               have zA := n10_
               clear n0_ n1_ n2_ n3_ n4_ n5_ n6_ n7_ n8_ n9_ n10_
               clear hb hbox hg
               refine hK.out _ _ ⟨(Xd nA.out 0).trans rfl, (Xd nA.out 1).trans rfl, (Xd nA.out 2).trans rfl, (Xd nA.out 3).trans rfl⟩ (fun hHeld => ?_)
               clear hK K
               refine norm_ (a' := ?_) ?_ ?_
               rotate_left
               ·show Act.put _ (some 10) _ = _
                simp only [Act.put, Xa, Xb, Xc, Xj, Xk]
                rfl
               exact norm_ (by simp only [putAll, Act.put, Xa, Xb, Xc]) (hCont (gA, bA) _ ⟨hHeld, (by (with_reducible repeat (first | apply Kd.R_alloc | apply Kd.R_drewN | apply Kd.R_drew)); exact Kd.R_mono gB.out (fun _ hk => ⟨hk.1.1, ⟨hk.2, hk.1.2⟩⟩)), (bb_5 nA.out), (bb_5 xA.out), (bb_5 yA.out), vB.out, uB.out, uA.out, bB.out, qA.out, zA.out, xB.out, eB.out, eA.out, nB.out, (hb_5 HB.out)⟩)
             rintro ⟨gA, bA⟩ w103 ⟨hS_, h0_, h1_, h2_, h3_, h4_, h5_, h6_, h7_, h8_, h9_, h10_, h11_, h12_, h13_, h14_⟩
             have n0_ : Xm (Kd.R k27 27 w103 w.heap.size (fun k_ => k_ ≠ vA ∧ k_ ≠ gA ∧ k_ ≠ bA) v139 t138) := ⟨h0_⟩
             have n1_ : Xm (w103.heap[vA]? = some (.cells #[.int J a0_0, .int J a0_1, .int J a0_2, .int J a0_3] 27 (0, 0))) := ⟨h1_⟩
             have n2_ : Xm (w103.heap[gA]? = some (.cells #[.int J 0, .int J 0, .int J 0, .int J 0] 27 (0, 0))) := ⟨h2_⟩
             have n3_ : Xm (w103.heap[bA]? = some (.cells #[.int J 0, .int J 0, .int J 0, .int J 0] 27 (0, 0))) := ⟨h3_⟩
             have n4_ : Xm (w.heap.size ≤ gA) := ⟨h4_⟩
             have n5_ : Xm (w.heap.size ≤ gA) := ⟨h5_⟩
             have n6_ : Xm (vA ≠ gA) := ⟨h6_⟩
             have n7_ : Xm (gA ≠ vA) := ⟨h7_⟩
             have n8_ : Xm (bA ≠ gA) := ⟨h8_⟩
             have n9_ : Xm (gA ≠ bA) := ⟨h9_⟩
             have n10_ : Xm (w.heap.size ≤ bA) := ⟨h10_⟩
             have n11_ : Xm (w.heap.size ≤ bA) := ⟨h11_⟩
             have n12_ : Xm (vA ≠ bA) := ⟨h12_⟩
             have n13_ : Xm (bA ≠ vA) := ⟨h13_⟩
             have n14_ : Xm (Below w.heap.size w w103) := ⟨h14_⟩
             clear gB
             clear nA
             clear HB
             clear h0_ h1_ h2_ h3_ h4_ h5_ h6_ h7_ h8_ h9_ h10_ h11_ h12_ h13_ h14_
             have gB := n0_
             have nA := n1_
             have xA := n2_
             have yA := n3_
             have vB := n4_
             have uB := n5_
             have uA := n6_
             have bB := n7_
             have qA := n8_
             have zA := n9_
             have xB := n10_
             have eB := n11_
             have eA := n12_
             have nB := n13_
             have HB := n14_
             clear n0_ n1_ n2_ n3_ n4_ n5_ n6_ n7_ n8_ n9_ n10_ n11_ n12_ n13_ n14_
             have hHeld : w103.cell? ⟨vA, 0, none⟩ = some (.int J a0_0) ∧ w103.cell? ⟨vA, 1, none⟩ = some (.int J a0_1) ∧ w103.cell? ⟨vA, 2, none⟩ = some (.int J a0_2) ∧ w103.cell? ⟨vA, 3, none⟩ = some (.int J a0_3) := hS_
             refine norm_ (a' := ?_) ?_ ?_
             rotate_left
             ·simp only [putAll, Act.put, Xa, Xb, Xc]
              rfl
             refine one_ (i := 4) (N := none) #[Zt,Zt,Zt,Zt,Zt,Zf] rfl rfl (by kernel_rfl) (by decide) (fun K hK => ?_)
             have hs104 : w103.cell? ⟨gA, 0, none⟩ = some (.int J 0) := (Xd xA.out 0).trans rfl
             have hfs104 := Xi xA.out 0
             have hns104_0 := uA.out
             have hns104_2 := qA.out
             have hms104_0 := bB.out
             have hms104_2 := zA.out
             have hs105 : w103.cell? ⟨gA, 1, none⟩ = some (.int J 0) := (Xd xA.out 1).trans rfl
             have hfs105 := Xi xA.out 1
             have hns105_0 := uA.out
             have hns105_2 := qA.out
             have hms105_0 := bB.out
             have hms105_2 := zA.out
             have hs106 : w103.cell? ⟨gA, 2, none⟩ = some (.int J 0) := (Xd xA.out 2).trans rfl
             have hfs106 := Xi xA.out 2
             have hns106_0 := uA.out
             have hns106_2 := qA.out
             have hms106_0 := bB.out
             have hms106_2 := zA.out
             have hs107 : w103.cell? ⟨gA, 3, none⟩ = some (.int J 0) := (Xd xA.out 3).trans rfl
             have hfs107 := Xi xA.out 3
             have hns107_0 := uA.out
             have hns107_2 := qA.out
             have hms107_0 := bB.out
             have hms107_2 := zA.out
             refine skip_ (w1 := ?_) (by rfl) rfl ?_ ?_
             rotate_left
             ·go_simp
              rfl
             refine hK.out _ _ ⟨((Xh (p := ⟨gA, _, none⟩) uA.out _).trans (((Xh (p := ⟨gA, _, none⟩) uA.out _).trans (((Xh (p := ⟨gA, _, none⟩) uA.out _).trans (((Xh (p := ⟨gA, _, none⟩) uA.out _).trans (hHeld.1)))))))), ((Xh (p := ⟨gA, _, none⟩) uA.out _).trans (((Xh (p := ⟨gA, _, none⟩) uA.out _).trans (((Xh (p := ⟨gA, _, none⟩) uA.out _).trans (((Xh (p := ⟨gA, _, none⟩) uA.out _).trans (hHeld.2.1)))))))), ((Xh (p := ⟨gA, _, none⟩) uA.out _).trans (((Xh (p := ⟨gA, _, none⟩) uA.out _).trans (((Xh (p := ⟨gA, _, none⟩) uA.out _).trans (((Xh (p := ⟨gA, _, none⟩) uA.out _).trans (hHeld.2.2.1)))))))), ((Xh (p := ⟨gA, _, none⟩) uA.out _).trans (((Xh (p := ⟨gA, _, none⟩) uA.out _).trans (((Xh (p := ⟨gA, _, none⟩) uA.out _).trans (((Xh (p := ⟨gA, _, none⟩) uA.out _).trans (hHeld.2.2.2))))))))⟩ (fun hHeld => ?_)
             clear hK K
             refine one_ (i := 5) (N := none) #[Zt,Zt,Zt,Zt,Zt,Zt] rfl rfl (by kernel_rfl) (by decide) (fun K hK => ?_)
             have hs108 : w103.cell? ⟨bA, 0, none⟩ = some (.int J 0) := (Xd yA.out 0).trans rfl
             have hfs108 := Xi yA.out 0
             have hns108_0 := eA.out
             have hns108_1 := zA.out
             have hms108_0 := nB.out
             have hms108_1 := qA.out
             have hs109 : w103.cell? ⟨bA, 1, none⟩ = some (.int J 0) := (Xd yA.out 1).trans rfl
             have hfs109 := Xi yA.out 1
             have hns109_0 := eA.out
             have hns109_1 := zA.out
             have hms109_0 := nB.out
             have hms109_1 := qA.out
             have hs110 : w103.cell? ⟨bA, 2, none⟩ = some (.int J 0) := (Xd yA.out 2).trans rfl
             have hfs110 := Xi yA.out 2
             have hns110_0 := eA.out
             have hns110_1 := zA.out
             have hms110_0 := nB.out
             have hms110_1 := qA.out
             have hs111 : w103.cell? ⟨bA, 3, none⟩ = some (.int J 0) := (Xd yA.out 3).trans rfl
             have hfs111 := Xi yA.out 3
             have hns111_0 := eA.out
             have hns111_1 := zA.out
             have hms111_0 := nB.out
             have hms111_1 := qA.out
             refine skip_ (w1 := ?_) (by rfl) rfl ?_ ?_
             rotate_left
             ·go_simp
              rfl
             refine hK.out _ _ ⟨((Xh (p := ⟨bA, _, none⟩) eA.out _).trans (((Xh (p := ⟨bA, _, none⟩) eA.out _).trans (((Xh (p := ⟨bA, _, none⟩) eA.out _).trans (((Xh (p := ⟨bA, _, none⟩) eA.out _).trans (hHeld.1)))))))), ((Xh (p := ⟨bA, _, none⟩) eA.out _).trans (((Xh (p := ⟨bA, _, none⟩) eA.out _).trans (((Xh (p := ⟨bA, _, none⟩) eA.out _).trans (((Xh (p := ⟨bA, _, none⟩) eA.out _).trans (hHeld.2.1)))))))), ((Xh (p := ⟨bA, _, none⟩) eA.out _).trans (((Xh (p := ⟨bA, _, none⟩) eA.out _).trans (((Xh (p := ⟨bA, _, none⟩) eA.out _).trans (((Xh (p := ⟨bA, _, none⟩) eA.out _).trans (hHeld.2.2.1)))))))), ((Xh (p := ⟨bA, _, none⟩) eA.out _).trans (((Xh (p := ⟨bA, _, none⟩) eA.out _).trans (((Xh (p := ⟨bA, _, none⟩) eA.out _).trans (((Xh (p := ⟨bA, _, none⟩) eA.out _).trans (hHeld.2.2.2))))))))⟩ (fun hHeld => ?_)
             clear hK K
             refine done_ (by kernel_rfl) ?_
             have hnb112 := bB.out
             have hnc112 := uA.out
             have hnb113 := zA.out
             have hnc113 := qA.out
             have hcz114_0 : w103.cell? ⟨gA, 0, none⟩ = some (.int J 0) := (Xd xA.out 0).trans rfl
             have hcz114_1 : w103.cell? ⟨gA, 1, none⟩ = some (.int J 0) := (Xd xA.out 1).trans rfl
             have hcz114_2 : w103.cell? ⟨gA, 2, none⟩ = some (.int J 0) := (Xd xA.out 2).trans rfl
             have hcz114_3 : w103.cell? ⟨gA, 3, none⟩ = some (.int J 0) := (Xd xA.out 3).trans rfl
             have hfz114_0 := Xi xA.out 0
             have hfz114_1 := Xi xA.out 1
             have hfz114_2 := Xi xA.out 2
             have hfz114_3 := Xi xA.out 3
             have hnb115 := nB.out
             have hnc115 := eA.out
             have hcz116_0 : w103.cell? ⟨bA, 0, none⟩ = some (.int J 0) := (Xd yA.out 0).trans rfl
             have hcz116_1 : w103.cell? ⟨bA, 1, none⟩ = some (.int J 0) := (Xd yA.out 1).trans rfl
             have hcz116_2 : w103.cell? ⟨bA, 2, none⟩ = some (.int J 0) := (Xd yA.out 2).trans rfl
             have hcz116_3 : w103.cell? ⟨bA, 3, none⟩ = some (.int J 0) := (Xd yA.out 3).trans rfl
             have hfz116_0 := Xi yA.out 0
             have hfz116_1 := Xi yA.out 1
             have hfz116_2 := Xi yA.out 2
             have hfz116_3 := Xi yA.out 3
             try go_wp2
             have n0_ : Xm (Kd.R k27 27 ((((((((((w103.setCell ⟨gA, 0, none⟩ (.int J a0_0)).setCell ⟨gA, 1, none⟩ (.int J a0_1)).setCell ⟨gA, 2, none⟩ (.int J a0_2)).setCell ⟨gA, 3, none⟩ (.int J a0_3)).setCell ⟨bA, 0, none⟩ (.int J a0_0)).setCell ⟨bA, 1, none⟩ (.int J a0_1)).setCell ⟨bA, 2, none⟩ (.int J a0_2)).setCell ⟨bA, 3, none⟩ (.int J a0_3)).setCell ⟨gA, 3, none⟩ (.int J a2)).setCell ⟨bA, 1, none⟩ (.int J a2)) w.heap.size (fun k_ => k_ ≠ vA ∧ k_ ≠ gA ∧ k_ ≠ bA) v139 t138) := ⟨by (with_reducible repeat (first | apply Kd.R_alloc | apply Kd.R_drewN | apply Kd.R_drew)); exact Kd.R_mono (Kd.R_far (p := ⟨bA, 1, none⟩) (Kd.R_far (p := ⟨gA, 3, none⟩) (Kd.R_far (p := ⟨bA, 3, none⟩) (Kd.R_far (p := ⟨bA, 2, none⟩) (Kd.R_far (p := ⟨bA, 1, none⟩) (Kd.R_far (p := ⟨bA, 0, none⟩) (Kd.R_far (p := ⟨gA, 3, none⟩) (Kd.R_far (p := ⟨gA, 2, none⟩) (Kd.R_far (p := ⟨gA, 1, none⟩) (Kd.R_far (p := ⟨gA, 0, none⟩) (Kd.R_mono (Kd.R_mono gB.out (fun k_ hk => (⟨hk, hk.2.1⟩ : _ ∧ k_ ≠ gA))) (fun k_ hk => (⟨hk, hk.1.2.2⟩ : _ ∧ k_ ≠ bA))) (fun _ hk => hk.1.2) (.int J a0_0)) (fun _ hk => hk.1.2) (.int J a0_1)) (fun _ hk => hk.1.2) (.int J a0_2)) (fun _ hk => hk.1.2) (.int J a0_3)) (fun _ hk => hk.2) (.int J a0_0)) (fun _ hk => hk.2) (.int J a0_1)) (fun _ hk => hk.2) (.int J a0_2)) (fun _ hk => hk.2) (.int J a0_3)) (fun _ hk => hk.1.2) (.int J a2)) (fun _ hk => hk.2) (.int J a2)) (fun _ hk => ⟨hk.1.1.1, ⟨hk.1.1.2.1, hk.1.1.2.2⟩⟩)⟩
             have n1_ : Xm (((((((((((w103.setCell ⟨gA, 0, none⟩ (.int J a0_0)).setCell ⟨gA, 1, none⟩ (.int J a0_1)).setCell ⟨gA, 2, none⟩ (.int J a0_2)).setCell ⟨gA, 3, none⟩ (.int J a0_3)).setCell ⟨bA, 0, none⟩ (.int J a0_0)).setCell ⟨bA, 1, none⟩ (.int J a0_1)).setCell ⟨bA, 2, none⟩ (.int J a0_2)).setCell ⟨bA, 3, none⟩ (.int J a0_3)).setCell ⟨gA, 3, none⟩ (.int J a2)).setCell ⟨bA, 1, none⟩ (.int J a2)).heap[vA]? = some (.cells #[.int J a0_0, .int J a0_1, .int J a0_2, .int J a0_3] 27 (0, 0))) := ⟨by (with_reducible repeat (first | refine Xf ?_ _ | refine Xe ?_ | refine Xg ?_ _)); refine Xl ?_ eA.out _; (with_reducible repeat (first | refine Xf ?_ _ | refine Xe ?_ | refine Xg ?_ _)); refine Xl ?_ uA.out _; (with_reducible repeat (first | refine Xf ?_ _ | refine Xe ?_ | refine Xg ?_ _)); refine Xl ?_ eA.out _; (with_reducible repeat (first | refine Xf ?_ _ | refine Xe ?_ | refine Xg ?_ _)); refine Xl ?_ eA.out _; (with_reducible repeat (first | refine Xf ?_ _ | refine Xe ?_ | refine Xg ?_ _)); refine Xl ?_ eA.out _; (with_reducible repeat (first | refine Xf ?_ _ | refine Xe ?_ | refine Xg ?_ _)); refine Xl ?_ eA.out _; (with_reducible repeat (first | refine Xf ?_ _ | refine Xe ?_ | refine Xg ?_ _)); refine Xl ?_ uA.out _; (with_reducible repeat (first | refine Xf ?_ _ | refine Xe ?_ | refine Xg ?_ _)); refine Xl ?_ uA.out _; (with_reducible repeat (first | refine Xf ?_ _ | refine Xe ?_ | refine Xg ?_ _)); refine Xl ?_ uA.out _; (with_reducible repeat (first | refine Xf ?_ _ | refine Xe ?_ | refine Xg ?_ _)); refine Xl ?_ uA.out _; (with_reducible repeat (first | refine Xf ?_ _ | refine Xe ?_ | refine Xg ?_ _)); exact nA.out⟩
             have n2_ : Xm (((((((((((w103.setCell ⟨gA, 0, none⟩ (.int J a0_0)).setCell ⟨gA, 1, none⟩ (.int J a0_1)).setCell ⟨gA, 2, none⟩ (.int J a0_2)).setCell ⟨gA, 3, none⟩ (.int J a0_3)).setCell ⟨bA, 0, none⟩ (.int J a0_0)).setCell ⟨bA, 1, none⟩ (.int J a0_1)).setCell ⟨bA, 2, none⟩ (.int J a0_2)).setCell ⟨bA, 3, none⟩ (.int J a0_3)).setCell ⟨gA, 3, none⟩ (.int J a2)).setCell ⟨bA, 1, none⟩ (.int J a2)).heap[gA]? = some (.cells #[.int J a0_0, .int J a0_1, .int J a0_2, .int J a2] 27 (0, 0))) := ⟨by (with_reducible repeat (first | refine Xf ?_ _ | refine Xe ?_ | refine Xg ?_ _)); refine Xl ?_ zA.out _; (with_reducible repeat (first | refine Xf ?_ _ | refine Xe ?_ | refine Xg ?_ _)); refine Xr (cs := #[.int J a0_0, .int J a0_1, .int J a0_2, .int J a0_3]) ?_ 3 _ rfl; (with_reducible repeat (first | refine Xf ?_ _ | refine Xe ?_ | refine Xg ?_ _)); refine Xl ?_ zA.out _; (with_reducible repeat (first | refine Xf ?_ _ | refine Xe ?_ | refine Xg ?_ _)); refine Xl ?_ zA.out _; (with_reducible repeat (first | refine Xf ?_ _ | refine Xe ?_ | refine Xg ?_ _)); refine Xl ?_ zA.out _; (with_reducible repeat (first | refine Xf ?_ _ | refine Xe ?_ | refine Xg ?_ _)); refine Xl ?_ zA.out _; (with_reducible repeat (first | refine Xf ?_ _ | refine Xe ?_ | refine Xg ?_ _)); refine Xr (cs := #[.int J a0_0, .int J a0_1, .int J a0_2, .int J 0]) ?_ 3 _ rfl; (with_reducible repeat (first | refine Xf ?_ _ | refine Xe ?_ | refine Xg ?_ _)); refine Xr (cs := #[.int J a0_0, .int J a0_1, .int J 0, .int J 0]) ?_ 2 _ rfl; (with_reducible repeat (first | refine Xf ?_ _ | refine Xe ?_ | refine Xg ?_ _)); refine Xr (cs := #[.int J a0_0, .int J 0, .int J 0, .int J 0]) ?_ 1 _ rfl; (with_reducible repeat (first | refine Xf ?_ _ | refine Xe ?_ | refine Xg ?_ _)); refine Xr (cs := #[.int J 0, .int J 0, .int J 0, .int J 0]) ?_ 0 _ rfl; (with_reducible repeat (first | refine Xf ?_ _ | refine Xe ?_ | refine Xg ?_ _)); exact xA.out⟩
             have n3_ : Xm (((((((((((w103.setCell ⟨gA, 0, none⟩ (.int J a0_0)).setCell ⟨gA, 1, none⟩ (.int J a0_1)).setCell ⟨gA, 2, none⟩ (.int J a0_2)).setCell ⟨gA, 3, none⟩ (.int J a0_3)).setCell ⟨bA, 0, none⟩ (.int J a0_0)).setCell ⟨bA, 1, none⟩ (.int J a0_1)).setCell ⟨bA, 2, none⟩ (.int J a0_2)).setCell ⟨bA, 3, none⟩ (.int J a0_3)).setCell ⟨gA, 3, none⟩ (.int J a2)).setCell ⟨bA, 1, none⟩ (.int J a2)).heap[bA]? = some (.cells #[.int J a0_0, .int J a2, .int J a0_2, .int J a0_3] 27 (0, 0))) := ⟨by (with_reducible repeat (first | refine Xf ?_ _ | refine Xe ?_ | refine Xg ?_ _)); refine Xr (cs := #[.int J a0_0, .int J a0_1, .int J a0_2, .int J a0_3]) ?_ 1 _ rfl; (with_reducible repeat (first | refine Xf ?_ _ | refine Xe ?_ | refine Xg ?_ _)); refine Xl ?_ qA.out _; (with_reducible repeat (first | refine Xf ?_ _ | refine Xe ?_ | refine Xg ?_ _)); refine Xr (cs := #[.int J a0_0, .int J a0_1, .int J a0_2, .int J 0]) ?_ 3 _ rfl; (with_reducible repeat (first | refine Xf ?_ _ | refine Xe ?_ | refine Xg ?_ _)); refine Xr (cs := #[.int J a0_0, .int J a0_1, .int J 0, .int J 0]) ?_ 2 _ rfl; (with_reducible repeat (first | refine Xf ?_ _ | refine Xe ?_ | refine Xg ?_ _)); refine Xr (cs := #[.int J a0_0, .int J 0, .int J 0, .int J 0]) ?_ 1 _ rfl; (with_reducible repeat (first | refine Xf ?_ _ | refine Xe ?_ | refine Xg ?_ _)); refine Xr (cs := #[.int J 0, .int J 0, .int J 0, .int J 0]) ?_ 0 _ rfl; (with_reducible repeat (first | refine Xf ?_ _ | refine Xe ?_ | refine Xg ?_ _)); refine Xl ?_ qA.out _; (with_reducible repeat (first | refine Xf ?_ _ | refine Xe ?_ | refine Xg ?_ _)); refine Xl ?_ qA.out _; (with_reducible repeat (first | refine Xf ?_ _ | refine Xe ?_ | refine Xg ?_ _)); refine Xl ?_ qA.out _; (with_reducible repeat (first | refine Xf ?_ _ | refine Xe ?_ | refine Xg ?_ _)); refine Xl ?_ qA.out _; (with_reducible repeat (first | refine Xf ?_ _ | refine Xe ?_ | refine Xg ?_ _)); exact yA.out⟩
             have n4_ : Xm (Below w.heap.size w ((((((((((w103.setCell ⟨gA, 0, none⟩ (.int J a0_0)).setCell ⟨gA, 1, none⟩ (.int J a0_1)).setCell ⟨gA, 2, none⟩ (.int J a0_2)).setCell ⟨gA, 3, none⟩ (.int J a0_3)).setCell ⟨bA, 0, none⟩ (.int J a0_0)).setCell ⟨bA, 1, none⟩ (.int J a0_1)).setCell ⟨bA, 2, none⟩ (.int J a0_2)).setCell ⟨bA, 3, none⟩ (.int J a0_3)).setCell ⟨gA, 3, none⟩ (.int J a2)).setCell ⟨bA, 1, none⟩ (.int J a2))) := ⟨by repeat (first | (with_reducible first | exact HB.out | apply below_alloc | apply Xw | apply Xs | refine Xt ?_ yB.out | refine Xt ?_ uB.out | refine Xt ?_ eB.out) | exact HB.out)⟩
             (try clear gB)
             (try clear nA)
             (try clear xA)
             (try clear yA)
             (try clear HB)
             generalize ((((((((((w103.setCell ⟨gA, 0, none⟩ (.int J a0_0)).setCell ⟨gA, 1, none⟩ (.int J a0_1)).setCell ⟨gA, 2, none⟩ (.int J a0_2)).setCell ⟨gA, 3, none⟩ (.int J a0_3)).setCell ⟨bA, 0, none⟩ (.int J a0_0)).setCell ⟨bA, 1, none⟩ (.int J a0_1)).setCell ⟨bA, 2, none⟩ (.int J a0_2)).setCell ⟨bA, 3, none⟩ (.int J a0_3)).setCell ⟨gA, 3, none⟩ (.int J a2)).setCell ⟨bA, 1, none⟩ (.int J a2)) = w117 at n0_ n1_ n2_ n3_ n4_ ⊢
             have gB := n0_
             have nA := n1_
             have xA := n2_
             have yA := n3_
             have HB := n4_
             clear n0_ n1_ n2_ n3_ n4_
             have n0_ := Za (Kd.R_drew gB.out)
             have n1_ := Za (Xe nA.out)
             have n2_ := Za (Xe xA.out)
             have n3_ := Za (Xe yA.out)
             have n4_ := Za (Xs HB.out)
             clear gB
             clear nA
             clear xA
             clear yA
             clear HB
             have gB := n0_
             have nA := n1_
             have xA := n2_
             have yA := n3_
             have HB := n4_
             clear n0_ n1_ n2_ n3_ n4_
             obtain ⟨Ao119, co119, eo119⟩ := Kd.R_slice gB.out
             (first | subst eo119 | (injection eo119 with f1_ f2_ f3_; have f4_ := f1_.symm; have f5_ := f3_.symm; clear f1_ f2_ f3_; subst f4_; subst f5_))
             have p147 : 0 ≤ (0 : Int) := (by omega)
             have q147 : 0 < (t138.length : Int) := of_decide_eq_true (by first | (with_reducible assumption) | assumption)
             obtain ⟨ad147, e147, hx147_0, hx147_1, hx147_2, hx147_3⟩ := at_T27 (Kd.R_reads' gB.out).2.2 0 p147 q147
             cases e147
             have qi147 : (0 < t138.length) = True := eq_true (by omega)
             (try rw [show ((0 : Int)).toNat = 0 from rfl] at hx147_0)
             (try rw [show 0 * 4 = 0 from rfl] at hx147_0)
             (try rw [Addr.add_zero'] at hx147_0)
             (try rw [show ((0 : Int)).toNat = 0 from rfl] at hx147_1)
             (try rw [show 0 * 4 = 0 from rfl] at hx147_1)
             (try rw [Addr.add_zero'] at hx147_1)
             (try rw [show ((0 : Int)).toNat = 0 from rfl] at hx147_2)
             (try rw [show 0 * 4 = 0 from rfl] at hx147_2)
             (try rw [Addr.add_zero'] at hx147_2)
             (try rw [show ((0 : Int)).toNat = 0 from rfl] at hx147_3)
             (try rw [show 0 * 4 = 0 from rfl] at hx147_3)
             (try rw [Addr.add_zero'] at hx147_3)
             replace p147 := eq_true p147
             replace q147 := eq_true q147
             have p148 : 0 ≤ (1 : Int) := (by omega)
             have q148 : 1 < (t138.length : Int) := of_decide_eq_true (by first | (with_reducible assumption) | assumption)
             obtain ⟨ad148, e148, hx148_0, hx148_1, hx148_2, hx148_3⟩ := at_T27 (Kd.R_reads' gB.out).2.2 1 p148 q148
             obtain rfl : ad147 = ad148 := (by injection e148)
             (try simp only [show (1 : Int).toNat = 1 from rfl, Nat.reduceMul, Nat.reduceEqDiff, Go.Addr.add, ↓reduceIte] at hx148_0)
             (try simp only [show (1 : Int).toNat = 1 from rfl, Nat.reduceMul, Nat.reduceEqDiff, Go.Addr.add, ↓reduceIte] at hx148_1)
             (try simp only [show (1 : Int).toNat = 1 from rfl, Nat.reduceMul, Nat.reduceEqDiff, Go.Addr.add, ↓reduceIte] at hx148_2)
             (try simp only [show (1 : Int).toNat = 1 from rfl, Nat.reduceMul, Nat.reduceEqDiff, Go.Addr.add, ↓reduceIte] at hx148_3)
             have qi148 : (1 < t138.length) = True := eq_true (by omega)
             (try rw [show ((1 : Int)).toNat = 1 from rfl] at hx148_0)
             (try rw [show 1 * 4 = 4 from rfl] at hx148_0)
             (try rw [show ((1 : Int)).toNat = 1 from rfl] at hx148_1)
             (try rw [show 1 * 4 = 4 from rfl] at hx148_1)
             (try rw [show ((1 : Int)).toNat = 1 from rfl] at hx148_2)
             (try rw [show 1 * 4 = 4 from rfl] at hx148_2)
             (try rw [show ((1 : Int)).toNat = 1 from rfl] at hx148_3)
             (try rw [show 1 * 4 = 4 from rfl] at hx148_3)
             replace p148 := eq_true p148
             replace q148 := eq_true q148
             refine start_ (n := 18) (S := fun w' => w'.cell? ⟨gA, 0, none⟩ = some (.int J a0_0) ∧ w'.cell? ⟨gA, 1, none⟩ = some (.int J a0_1) ∧ w'.cell? ⟨gA, 2, none⟩ = some (.int J a0_2) ∧ w'.cell? ⟨gA, 3, none⟩ = some (.int J a2) ∧ w'.cell? ⟨bA, 0, none⟩ = some (.int J a0_0) ∧ w'.cell? ⟨bA, 1, none⟩ = some (.int J a2) ∧ w'.cell? ⟨bA, 2, none⟩ = some (.int J a0_2) ∧ w'.cell? ⟨bA, 3, none⟩ = some (.int J a0_3) ∧ w'.cell? ad147 = some (.int J ((rd_T27 t138 0).f0)) ∧ w'.cell? ⟨ad147.block, ad147.off + 1, none⟩ = some (.int J ((rd_T27 t138 0).f1)) ∧ w'.cell? ⟨ad147.block, ad147.off + 2, none⟩ = some (.int J ((rd_T27 t138 0).f2)) ∧ w'.cell? ⟨ad147.block, ad147.off + 3, none⟩ = some (.int J ((rd_T27 t138 0).f3)) ∧ w'.cell? ⟨ad147.block, ad147.off + 4, none⟩ = some (.int J ((rd_T27 t138 1).f0)) ∧ w'.cell? ⟨ad147.block, ad147.off + 4 + 1, none⟩ = some (.int J ((rd_T27 t138 1).f1)) ∧ w'.cell? ⟨ad147.block, ad147.off + 4 + 2, none⟩ = some (.int J ((rd_T27 t138 1).f2)) ∧ w'.cell? ⟨ad147.block, ad147.off + 4 + 3, none⟩ = some (.int J ((rd_T27 t138 1).f3))) (ds := []) #[Zf,Zf,Zf,Zf,Zf,Zf,Zf,Zf,Zf,Zf,Zf,Zf,Zf,Zf,Zf,Zf,Zf,Zf] (by kernel_rfl) rfl rfl ⟨(Xd xA.out 0).trans rfl, (Xd xA.out 1).trans rfl, (Xd xA.out 2).trans rfl, (Xd xA.out 3).trans rfl, (Xd yA.out 0).trans rfl, (Xd yA.out 1).trans rfl, (Xd yA.out 2).trans rfl, (Xd yA.out 3).trans rfl, hx147_0, hx147_1, hx147_2, hx147_3, hx148_0, hx148_1, hx148_2, hx148_3⟩ (fun hHeld => ?_); refine with_tabW gatherumlaw04_BoxSplits.tab17 gatherumlaw04_BoxSplits.bits17 (fun HT_ HW_ => ?_)
             generalize w117.drew = w118 at gB nA xA yA HB hx147_0 hx147_1 hx147_2 hx147_3 hx148_0 hx148_1 hx148_2 hx148_3 hHeld ⊢
             refine Xo (i := 0) (N := some 61) (v := ?_) (a' := ?_) #[Zt,Zf,Zf,Zf,Zf,Zf,Zf,Zf,Zf,Zf,Zf,Zf,Zf,Zf,Zf,Zf,Zf,Zf] rfl rfl (Xn HT_.out (by kernel_rfl)) (fun _ _ _ h => h) (Or.inl ⟨by rfl, ?_⟩) ?_ ?_
             rotate_left
             ·intro w'
              go_simp
              with_reducible rfl
             rotate_left
             ·simp only [Act.put, Xa, Xb, Xc, Xj, Xk]
              rfl
             refine Xo (i := 1) (N := some 62) (v := ?_) (a' := ?_) #[Zt,Zt,Zf,Zf,Zf,Zf,Zf,Zf,Zf,Zf,Zf,Zf,Zf,Zf,Zf,Zf,Zf,Zf] rfl rfl (Xn HT_.out (by kernel_rfl)) (fun _ _ _ h => h) (Or.inl ⟨by rfl, ?_⟩) ?_ ?_
             rotate_left
             ·intro w'
              go_simp
              with_reducible rfl
             rotate_left
             ·simp only [Act.put, Xa, Xb, Xc, Xj, Xk]
              rfl
             refine Xo (i := 2) (N := some 63) (v := ?_) (a' := ?_) #[Zt,Zt,Zt,Zf,Zf,Zf,Zf,Zf,Zf,Zf,Zf,Zf,Zf,Zf,Zf,Zf,Zf,Zf] rfl rfl (Xn HT_.out (by kernel_rfl)) (fun _ _ _ h => h) (Or.inl ⟨by rfl, ?_⟩) ?_ ?_
             rotate_left
             ·intro w'
              go_simp
              with_reducible rfl
             rotate_left
             ·simp only [Act.put, Xa, Xb, Xc, Xj, Xk]
              rfl
             refine Xo (i := 3) (N := some 64) (v := ?_) (a' := ?_) #[Zt,Zt,Zt,Zt,Zf,Zf,Zf,Zf,Zf,Zf,Zf,Zf,Zf,Zf,Zf,Zf,Zf,Zf] rfl rfl (Xn HT_.out (by kernel_rfl)) (fun _ _ _ h => h) (Or.inl ⟨by rfl, ?_⟩) ?_ ?_
             rotate_left
             ·intro w'
              go_simp
              with_reducible rfl
             rotate_left
             ·simp only [Act.put, Xa, Xb, Xc, Xj, Xk]
              rfl
             refine Xo (i := 4) (N := some 65) (v := ?_) (a' := ?_) #[Zt,Zt,Zt,Zt,Zt,Zf,Zf,Zf,Zf,Zf,Zf,Zf,Zf,Zf,Zf,Zf,Zf,Zf] rfl rfl (Xn HT_.out (by kernel_rfl)) (fun _ _ _ h => h) (Or.inl ⟨by rfl, ?_⟩) ?_ ?_
             rotate_left
             ·intro w'
              go_simp
              with_reducible rfl
             rotate_left
             ·simp only [Act.put, Xa, Xb, Xc, Xj, Xk]
              rfl
             refine Xo (i := 5) (N := some 66) (v := ?_) (a' := ?_) #[Zt,Zt,Zt,Zt,Zt,Zt,Zf,Zf,Zf,Zf,Zf,Zf,Zf,Zf,Zf,Zf,Zf,Zf] rfl rfl (Xn HT_.out (by kernel_rfl)) (fun _ _ _ h => h) (Or.inl ⟨by rfl, ?_⟩) ?_ ?_
             rotate_left
             ·intro w'
              go_simp
              with_reducible rfl
             rotate_left
             ·simp only [Act.put, Xa, Xb, Xc, Xj, Xk]
              rfl
             refine take_ (i := 6) (N := some 67) (v := ?_) (a' := ?_) #[Zt,Zt,Zt,Zt,Zt,Zt,Zt,Zf,Zf,Zf,Zf,Zf,Zf,Zf,Zf,Zf,Zf,Zf] rfl rfl (take_ofW HT_.out HW_.out (by kernel_rfl)) (fun _ _ _ h => h) (Or.inl ⟨by rfl, ?_⟩) hHeld ?_ ?_
             rotate_left
             ·rintro w' ⟨s0, s1, s2, s3, s4, s5, s6, s7, s8, s9, s10, s11, s12, s13, s14, s15⟩
              go_simp
              with_reducible rfl
             rotate_left
             ·simp only [Act.put, Xa, Xb, Xc, Xj, Xk]
              rfl
             refine take_ (i := 7) (N := some 68) (v := ?_) (a' := ?_) #[Zt,Zt,Zt,Zt,Zt,Zt,Zt,Zt,Zf,Zf,Zf,Zf,Zf,Zf,Zf,Zf,Zf,Zf] rfl rfl (take_ofW HT_.out HW_.out (by kernel_rfl)) (fun _ _ _ h => h) (Or.inl ⟨by rfl, ?_⟩) hHeld ?_ ?_
             rotate_left
             ·rintro w' ⟨s0, s1, s2, s3, s4, s5, s6, s7, s8, s9, s10, s11, s12, s13, s14, s15⟩
              go_simp
              with_reducible rfl
             rotate_left
             ·simp only [Act.put, Xa, Xb, Xc, Xj, Xk]
              rfl
             refine Xo (i := 8) (N := some 69) (v := ?_) (a' := ?_) #[Zt,Zt,Zt,Zt,Zt,Zt,Zt,Zt,Zt,Zf,Zf,Zf,Zf,Zf,Zf,Zf,Zf,Zf] rfl rfl (Xn HT_.out (by kernel_rfl)) (fun _ _ _ h => h) (Or.inl ⟨by rfl, ?_⟩) ?_ ?_
             rotate_left
             ·intro w'
              go_simp
              with_reducible rfl
             rotate_left
             ·simp only [Act.put, Xa, Xb, Xc, Xj, Xk]
              rfl
             refine Xo (i := 9) (N := some 70) (v := ?_) (a' := ?_) #[Zt,Zt,Zt,Zt,Zt,Zt,Zt,Zt,Zt,Zt,Zf,Zf,Zf,Zf,Zf,Zf,Zf,Zf] rfl rfl (Xn HT_.out (by kernel_rfl)) (fun _ _ _ h => h) (Or.inl ⟨by rfl, ?_⟩) ?_ ?_
             rotate_left
             ·intro w'
              go_simp
              with_reducible rfl
             rotate_left
             ·simp only [Act.put, Xa, Xb, Xc, Xj, Xk]
              rfl
             refine Xo (i := 10) (N := some 71) (v := ?_) (a' := ?_) #[Zt,Zt,Zt,Zt,Zt,Zt,Zt,Zt,Zt,Zt,Zt,Zf,Zf,Zf,Zf,Zf,Zf,Zf] rfl rfl (Xn HT_.out (by kernel_rfl)) (fun _ _ _ h => h) (Or.inl ⟨by rfl, ?_⟩) ?_ ?_
             rotate_left
             ·intro w'
              go_simp
              with_reducible rfl
             rotate_left
             ·simp only [Act.put, Xa, Xb, Xc, Xj, Xk]
              rfl
             refine Xo (i := 11) (N := some 72) (v := ?_) (a' := ?_) #[Zt,Zt,Zt,Zt,Zt,Zt,Zt,Zt,Zt,Zt,Zt,Zt,Zf,Zf,Zf,Zf,Zf,Zf] rfl rfl (Xn HT_.out (by kernel_rfl)) (fun _ _ _ h => h) (Or.inl ⟨by rfl, ?_⟩) ?_ ?_
             rotate_left
             ·intro w'
              go_simp
              with_reducible rfl
             rotate_left
             ·simp only [Act.put, Xa, Xb, Xc, Xj, Xk]
              rfl
             refine Xo (i := 12) (N := some 73) (v := ?_) (a' := ?_) #[Zt,Zt,Zt,Zt,Zt,Zt,Zt,Zt,Zt,Zt,Zt,Zt,Zt,Zf,Zf,Zf,Zf,Zf] rfl rfl (Xn HT_.out (by kernel_rfl)) (fun _ _ _ h => h) (Or.inl ⟨by rfl, ?_⟩) ?_ ?_
             rotate_left
             ·intro w'
              go_simp
              with_reducible rfl
             rotate_left
             ·simp only [Act.put, Xa, Xb, Xc, Xj, Xk]
              rfl
             refine take_ (i := 13) (N := some 74) (v := ?_) (a' := ?_) #[Zt,Zt,Zt,Zt,Zt,Zt,Zt,Zt,Zt,Zt,Zt,Zt,Zt,Zt,Zf,Zf,Zf,Zf] rfl rfl (take_ofW HT_.out HW_.out (by kernel_rfl)) (fun _ _ _ h => h) (Or.inl ⟨by rfl, ?_⟩) hHeld ?_ ?_
             rotate_left
             ·rintro w' ⟨s0, s1, s2, s3, s4, s5, s6, s7, s8, s9, s10, s11, s12, s13, s14, s15⟩
              go_simp
              with_reducible rfl
             rotate_left
             ·simp only [Act.put, Xa, Xb, Xc, Xj, Xk]
              rfl
             refine take_ (i := 14) (N := some 75) (v := ?_) (a' := ?_) #[Zt,Zt,Zt,Zt,Zt,Zt,Zt,Zt,Zt,Zt,Zt,Zt,Zt,Zt,Zt,Zf,Zf,Zf] rfl rfl (take_ofW HT_.out HW_.out (by kernel_rfl)) (fun _ _ _ h => h) (Or.inl ⟨by rfl, ?_⟩) hHeld ?_ ?_
             rotate_left
             ·rintro w' ⟨s0, s1, s2, s3, s4, s5, s6, s7, s8, s9, s10, s11, s12, s13, s14, s15⟩
              go_simp
              with_reducible rfl
             rotate_left
             ·simp only [Act.put, Xa, Xb, Xc, Xj, Xk]
              rfl
             refine Xo (i := 15) (N := some 76) (v := ?_) (a' := ?_) #[Zt,Zt,Zt,Zt,Zt,Zt,Zt,Zt,Zt,Zt,Zt,Zt,Zt,Zt,Zt,Zt,Zf,Zf] rfl rfl (Xn HT_.out (by kernel_rfl)) (fun _ _ _ h => h) (Or.inl ⟨by rfl, ?_⟩) ?_ ?_
             rotate_left
             ·intro w'
              go_simp
              with_reducible rfl
             rotate_left
             ·simp only [Act.put, Xa, Xb, Xc, Xj, Xk]
              rfl
             refine Xo (i := 16) (N := some 77) (v := ?_) (a' := ?_) #[Zt,Zt,Zt,Zt,Zt,Zt,Zt,Zt,Zt,Zt,Zt,Zt,Zt,Zt,Zt,Zt,Zt,Zf] rfl rfl (Xn HT_.out (by kernel_rfl)) (fun _ _ _ h => h) (Or.inl ⟨by rfl, ?_⟩) ?_ ?_
             rotate_left
             ·intro w'
              go_simp
              with_reducible rfl
             rotate_left
             ·simp only [Act.put, Xa, Xb, Xc, Xj, Xk]
              rfl
             refine Xo (i := 17) (N := some 6) (v := ?_) (a' := ?_) #[Zt,Zt,Zt,Zt,Zt,Zt,Zt,Zt,Zt,Zt,Zt,Zt,Zt,Zt,Zt,Zt,Zt,Zt] rfl rfl (Xn HT_.out (by kernel_rfl)) (fun _ _ _ h => h) (Or.inl ⟨by rfl, ?_⟩) ?_ ?_
             rotate_left
             ·intro w'
              go_simp
              with_reducible rfl
             rotate_left
             ·simp only [Act.put, Xa, Xb, Xc, Xj, Xk]
              rfl
             refine done_ (done_of HT_.out (by kernel_rfl)) ?_
             try go_wp2
             go_ret
             exact ⟨by first | rfl | (simp [errW_none, errW_some] <;> rfl) | (simp [*, errW_none, errW_some] <;> rfl), by repeat (first | (with_reducible first | exact HB.out | apply below_alloc | apply Xw | apply Xs | refine Xt ?_ yB.out | refine Xt ?_ uB.out | refine Xt ?_ eB.out) | exact HB.out)⟩
            ·rw [if_neg c99] at H
             exact absurd H (by simp)
           ·rw [if_neg c98] at H
            have c98b0 : (((rd_T27 t138 0).f0) == a0_0 && (((rd_T27 t138 0).f1) == a0_1 && (((rd_T27 t138 0).f2) == a0_2 && (((rd_T27 t138 0).f3) == a2)))) = Zf := by simpa using c98
            (try (have c98b1 : decide (((rd_T27 t138 0).f0) = a0_0 && (((rd_T27 t138 0).f1) == a0_1 && (((rd_T27 t138 0).f2) == a0_2 && (((rd_T27 t138 0).f3) == a2)))) = Zf := by simpa using c98))
            (try (have c98b2 : (((rd_T27 t138 0).f0) == a0_0 && (((rd_T27 t138 0).f1) == a0_1 && (((rd_T27 t138 0).f2) == a0_2 && (((rd_T27 t138 0).f3) == a2)))) = Zf := by simpa using c98))
            (try (have c98b3 : ¬ (((rd_T27 t138 0).f0) = a0_0 && (((rd_T27 t138 0).f1) == a0_1 && (((rd_T27 t138 0).f2) == a0_2 && (((rd_T27 t138 0).f3) == a2)))) := by simpa using c98))
            clear c98
            obtain rfl := Option.some.inj H
            try go_wp2
            have n0_ := Za (Kd.R_drew gB.out)
            have n1_ := Za (Xe nA.out)
            have n2_ := Za (Xs HB.out)
            clear gB
            clear nA
            clear HB
            have gB := n0_
            have nA := n1_
            have HB := n2_
            clear n0_ n1_ n2_
            refine start_ (n := 6) (S := fun w' => w'.cell? ⟨vA, 0, none⟩ = some (.int J a0_0) ∧ w'.cell? ⟨vA, 1, none⟩ = some (.int J a0_1) ∧ w'.cell? ⟨vA, 2, none⟩ = some (.int J a0_2) ∧ w'.cell? ⟨vA, 3, none⟩ = some (.int J a0_3)) (ds := []) #[Zf,Zf,Zf,Zf,Zf,Zf] (by kernel_rfl) rfl rfl ⟨(Xd nA.out 0).trans rfl, (Xd nA.out 1).trans rfl, (Xd nA.out 2).trans rfl, (Xd nA.out 3).trans rfl⟩ (fun hHeld => ?_)
            generalize wc.drew = w120 at gB nA HB hHeld ⊢
            refine take_ (i := 0) (N := some 50) (v := ?_) (a' := ?_) #[Zt,Zf,Zf,Zf,Zf,Zf] rfl rfl (by kernel_rfl) (fun _ _ _ h => h) (Or.inl ⟨by rfl, ?_⟩) hHeld ?_ ?_
            rotate_left
            ·rintro w' ⟨s0, s1, s2, s3⟩
             go_simp
             with_reducible rfl
            rotate_left
            ·simp only [Act.put, Xa, Xb, Xc, Xj, Xk]
             rfl
            refine take_ (i := 1) (N := some 51) (v := ?_) (a' := ?_) #[Zt,Zt,Zf,Zf,Zf,Zf] rfl rfl (by kernel_rfl) (fun _ _ _ h => h) (Or.inl ⟨by rfl, ?_⟩) hHeld ?_ ?_
            rotate_left
            ·rintro w' ⟨s0, s1, s2, s3⟩
             go_simp
             with_reducible rfl
            rotate_left
            ·simp only [Act.put, Xa, Xb, Xc, Xj, Xk]
             rfl
            refine join_ (σ := Nat × Nat) 2 #[Zt,Zt,Zt,Zt,Zf,Zf] (fun s_ => [(10, .pointer (some ⟨s_.1, 0, none⟩)), (11, .pointer (some ⟨s_.2, 0, none⟩))]) (fun s_ w' => (w'.cell? ⟨vA, 0, none⟩ = some (.int J a0_0) ∧ w'.cell? ⟨vA, 1, none⟩ = some (.int J a0_1) ∧ w'.cell? ⟨vA, 2, none⟩ = some (.int J a0_2) ∧ w'.cell? ⟨vA, 3, none⟩ = some (.int J a0_3)) ∧ (Kd.R k27 27 w' w.heap.size (fun k_ => k_ ≠ vA ∧ k_ ≠ s_.1 ∧ k_ ≠ s_.2) v139 t138) ∧ (w'.heap[vA]? = some (.cells #[.int J a0_0, .int J a0_1, .int J a0_2, .int J a0_3] 27 (0, 0))) ∧ (w'.heap[s_.1]? = some (.cells #[.int J 0, .int J 0, .int J 0, .int J 0] 27 (0, 0))) ∧ (w'.heap[s_.2]? = some (.cells #[.int J 0, .int J 0, .int J 0, .int J 0] 27 (0, 0))) ∧ (w.heap.size ≤ s_.1) ∧ (w.heap.size ≤ s_.1) ∧ (vA ≠ s_.1) ∧ (s_.1 ≠ vA) ∧ (s_.2 ≠ s_.1) ∧ (s_.1 ≠ s_.2) ∧ (w.heap.size ≤ s_.2) ∧ (w.heap.size ≤ s_.2) ∧ (vA ≠ s_.2) ∧ (s_.2 ≠ vA) ∧ (Below w.heap.size w w')) ?_ ?_
            rotate_left
            ·intro hCont
             refine two_ (i := 2) (j := 3) (Ni := some 10) (Nj := some 11) #[Zt,Zt,Zt,Zf,Zf,Zf] #[Zt,Zt,Zf,Zt,Zf,Zf] rfl rfl rfl rfl (by kernel_rfl) (by decide) (by decide) (fun K hK => ?_) (fun K hK => ?_)
             ·skip
              refine box_step ?hg (N := 10) ?hd (cs := #[.int J 0, .int J 0, .int J 0, .int J 0]) (t := 27) ?hr ?_; (case hd => rfl); (case hg => rfl); (case hr => first | (go_simp; done) | (go_simp; rfl))
              intro gA hg w121 hbox hb
              have n0_ := Za (Kd.R_below (Kd.R_elderB (by (with_reducible repeat (first | apply Kd.R_alloc | apply Kd.R_drewN | apply Kd.R_drew)); exact gB.out) gA (Nat.le_of_eq hg.symm)) hb)
              have n1_ := Za (Xu (g := vA) (o := .cells #[.int J a0_0, .int J a0_1, .int J a0_2, .int J a0_3] 27 (0, 0)) (bb_5 nA.out) hb)
              have n2_ := Za (Xv (hb_5 HB.out) hb)
              have n3_ := Za (hbox)
              have n4_ := Za ((by rw [hg]; exact (Xp (hb_5 HB.out)) : w.heap.size ≤ gA))
              have n5_ := Za ((by rw [hg]; exact (Xp (hb_5 HB.out)) : w.heap.size ≤ gA))
              have n6_ := Za ((by rw [hg]; exact Nat.ne_of_lt (Xq (g := vA) (o := .cells #[.int J a0_0, .int J a0_1, .int J a0_2, .int J a0_3] 27 (0, 0)) (bb_5 nA.out)) : vA ≠ gA))
              have n7_ := Za ((by rw [hg]; exact Nat.ne_of_gt (Xq (g := vA) (o := .cells #[.int J a0_0, .int J a0_1, .int J a0_2, .int J a0_3] 27 (0, 0)) (bb_5 nA.out)) : gA ≠ vA))
              clear gB
              clear nA
              clear HB
              have gB := n0_
              have nA := n1_
              have HB := n2_
              have xA := n3_
              have vB := n4_
              have uB := n5_
              have uA := n6_
              have bB := n7_
              clear n0_ n1_ n2_ n3_ n4_ n5_ n6_ n7_
              clear hb hbox hg
              refine hK.out _ _ ⟨(Xd nA.out 0).trans rfl, (Xd nA.out 1).trans rfl, (Xd nA.out 2).trans rfl, (Xd nA.out 3).trans rfl⟩ (fun hHeld => ?_)
              clear hK K
              refine norm_ (a' := ?_) ?_ ?_
              rotate_left
              ·show Act.put _ (some 10) _ = _
               simp only [Act.put, Xa, Xb, Xc, Xj, Xk]
               rfl
              refine one_ (i := 3) (N := some 11) #[Zt,Zt,Zt,Zt,Zf,Zf] rfl rfl (by kernel_rfl) (by decide) (fun K hK => ?_)
              refine box_step ?hg (N := 11) ?hd (cs := #[.int J 0, .int J 0, .int J 0, .int J 0]) (t := 27) ?hr ?_; (case hd => rfl); (case hg => rfl); (case hr => first | (go_simp; done) | (go_simp; rfl))
              intro bA hg w122 hbox hb
              have n0_ := Za (Kd.R_below (Kd.R_elderB (by (with_reducible repeat (first | apply Kd.R_alloc | apply Kd.R_drewN | apply Kd.R_drew)); exact gB.out) bA (Nat.le_of_eq hg.symm)) hb)
              have n1_ := Za (Xu (g := vA) (o := .cells #[.int J a0_0, .int J a0_1, .int J a0_2, .int J a0_3] 27 (0, 0)) (bb_5 nA.out) hb)
              have n2_ := Za (Xu (g := gA) (o := .cells #[.int J 0, .int J 0, .int J 0, .int J 0] 27 (0, 0)) (bb_5 xA.out) hb)
              have n3_ := Za (Xv (hb_5 HB.out) hb)
              have n4_ := Za (hbox)
              have n5_ := Za ((by rw [hg]; exact (Xp (hb_5 HB.out)) : w.heap.size ≤ bA))
              have n6_ := Za ((by rw [hg]; exact (Xp (hb_5 HB.out)) : w.heap.size ≤ bA))
              have n7_ := Za ((by rw [hg]; exact Nat.ne_of_lt (Xq (g := vA) (o := .cells #[.int J a0_0, .int J a0_1, .int J a0_2, .int J a0_3] 27 (0, 0)) (bb_5 nA.out)) : vA ≠ bA))
              have n8_ := Za ((by rw [hg]; exact Nat.ne_of_gt (Xq (g := vA) (o := .cells #[.int J a0_0, .int J a0_1, .int J a0_2, .int J a0_3] 27 (0, 0)) (bb_5 nA.out)) : bA ≠ vA))
              have n9_ := Za ((by rw [hg]; exact Nat.ne_of_lt (Xq (g := gA) (o := .cells #[.int J 0, .int J 0, .int J 0, .int J 0] 27 (0, 0)) (bb_5 xA.out)) : gA ≠ bA))
              have n10_ := Za ((by rw [hg]; exact Nat.ne_of_gt (Xq (g := gA) (o := .cells #[.int J 0, .int J 0, .int J 0, .int J 0] 27 (0, 0)) (bb_5 xA.out)) : bA ≠ gA))
              clear gB
              clear nA
              clear xA
              clear HB
              have gB := n0_
              have nA := n1_
              have xA := n2_
              have HB := n3_
              have yA := n4_
              have xB := n5_
              have eB := n6_
              have eA := n7_
              have nB := n8_
              have zA := n9_
              have qA := n10_
              clear n0_ n1_ n2_ n3_ n4_ n5_ n6_ n7_ n8_ n9_ n10_
              clear hb hbox hg
              refine hK.out _ _ ⟨(Xd nA.out 0).trans rfl, (Xd nA.out 1).trans rfl, (Xd nA.out 2).trans rfl, (Xd nA.out 3).trans rfl⟩ (fun hHeld => ?_)
              clear hK K
              refine norm_ (a' := ?_) ?_ ?_
              rotate_left
              ·show Act.put _ (some 11) _ = _
               simp only [Act.put, Xa, Xb, Xc, Xj, Xk]
               rfl
              exact norm_ (by simp only [putAll, Act.put, Xa, Xb, Xc]) (hCont (gA, bA) _ ⟨hHeld, (by (with_reducible repeat (first | apply Kd.R_alloc | apply Kd.R_drewN | apply Kd.R_drew)); exact Kd.R_mono gB.out (fun _ hk => ⟨hk.1.1, ⟨hk.1.2, hk.2⟩⟩)), (bb_5 nA.out), (bb_5 xA.out), (bb_5 yA.out), vB.out, uB.out, uA.out, bB.out, qA.out, zA.out, xB.out, eB.out, eA.out, nB.out, (hb_5 HB.out)⟩)
             ·skip
              refine box_step ?hg (N := 11) ?hd (cs := #[.int J 0, .int J 0, .int J 0, .int J 0]) (t := 27) ?hr ?_; (case hd => rfl); (case hg => rfl); (case hr => first | (go_simp; done) | (go_simp; rfl))
              intro bA hg w121 hbox hb
              have n0_ := Za (Kd.R_below (Kd.R_elderB (by (with_reducible repeat (first | apply Kd.R_alloc | apply Kd.R_drewN | apply Kd.R_drew)); exact gB.out) bA (Nat.le_of_eq hg.symm)) hb)
              have n1_ := Za (Xu (g := vA) (o := .cells #[.int J a0_0, .int J a0_1, .int J a0_2, .int J a0_3] 27 (0, 0)) (bb_5 nA.out) hb)
              have n2_ := Za (Xv (hb_5 HB.out) hb)
              have n3_ := Za (hbox)
              have n4_ := Za ((by rw [hg]; exact (Xp (hb_5 HB.out)) : w.heap.size ≤ bA))
              have n5_ := Za ((by rw [hg]; exact (Xp (hb_5 HB.out)) : w.heap.size ≤ bA))
              have n6_ := Za ((by rw [hg]; exact Nat.ne_of_lt (Xq (g := vA) (o := .cells #[.int J a0_0, .int J a0_1, .int J a0_2, .int J a0_3] 27 (0, 0)) (bb_5 nA.out)) : vA ≠ bA))
              have n7_ := Za ((by rw [hg]; exact Nat.ne_of_gt (Xq (g := vA) (o := .cells #[.int J a0_0, .int J a0_1, .int J a0_2, .int J a0_3] 27 (0, 0)) (bb_5 nA.out)) : bA ≠ vA))
              clear gB
              clear nA
              clear HB
              have gB := n0_
              have nA := n1_
              have HB := n2_
              have yA := n3_
              have xB := n4_
              have eB := n5_
              have eA := n6_
              have nB := n7_
              clear n0_ n1_ n2_ n3_ n4_ n5_ n6_ n7_
              clear hb hbox hg
              refine hK.out _ _ ⟨(Xd nA.out 0).trans rfl, (Xd nA.out 1).trans rfl, (Xd nA.out 2).trans rfl, (Xd nA.out 3).trans rfl⟩ (fun hHeld => ?_)
              clear hK K
              refine norm_ (a' := ?_) ?_ ?_
              rotate_left
              ·show Act.put _ (some 11) _ = _
               simp only [Act.put, Xa, Xb, Xc, Xj, Xk]
               rfl
              refine one_ (i := 2) (N := some 10) #[Zt,Zt,Zt,Zt,Zf,Zf] rfl rfl (by kernel_rfl) (by decide) (fun K hK => ?_)
              refine box_step ?hg (N := 10) ?hd (cs := #[.int J 0, .int J 0, .int J 0, .int J 0]) (t := 27) ?hr ?_; (case hd => rfl); (case hg => rfl); (case hr => first | (go_simp; done) | (go_simp; rfl))
              intro gA hg w122 hbox hb
              have n0_ := Za (Kd.R_below (Kd.R_elderB (by (with_reducible repeat (first | apply Kd.R_alloc | apply Kd.R_drewN | apply Kd.R_drew)); exact gB.out) gA (Nat.le_of_eq hg.symm)) hb)
              have n1_ := Za (Xu (g := vA) (o := .cells #[.int J a0_0, .int J a0_1, .int J a0_2, .int J a0_3] 27 (0, 0)) (bb_5 nA.out) hb)
              have n2_ := Za (Xu (g := bA) (o := .cells #[.int J 0, .int J 0, .int J 0, .int J 0] 27 (0, 0)) (bb_5 yA.out) hb)
              have n3_ := Za (Xv (hb_5 HB.out) hb)
              have n4_ := Za (hbox)
              have n5_ := Za ((by rw [hg]; exact (Xp (hb_5 HB.out)) : w.heap.size ≤ gA))
              have n6_ := Za ((by rw [hg]; exact (Xp (hb_5 HB.out)) : w.heap.size ≤ gA))
              have n7_ := Za ((by rw [hg]; exact Nat.ne_of_lt (Xq (g := vA) (o := .cells #[.int J a0_0, .int J a0_1, .int J a0_2, .int J a0_3] 27 (0, 0)) (bb_5 nA.out)) : vA ≠ gA))
              have n8_ := Za ((by rw [hg]; exact Nat.ne_of_gt (Xq (g := vA) (o := .cells #[.int J a0_0, .int J a0_1, .int J a0_2, .int J a0_3] 27 (0, 0)) (bb_5 nA.out)) : gA ≠ vA))
              have n9_ := Za ((by rw [hg]; exact Nat.ne_of_lt (Xq (g := bA) (o := .cells #[.int J 0, .int J 0, .int J 0, .int J 0] 27 (0, 0)) (bb_5 yA.out)) : bA ≠ gA))
              have n10_ := Za ((by rw [hg]; exact Nat.ne_of_gt (Xq (g := bA) (o := .cells #[.int J 0, .int J 0, .int J 0, .int J 0] 27 (0, 0)) (bb_5 yA.out)) : gA ≠ bA))
              clear gB
              clear nA
              clear yA
              clear HB
              have gB := n0_
              have nA := n1_
              have yA := n2_
              have HB := n3_
              have xA := n4_
              have vB := n5_
              have uB := n6_
              have uA := n7_
              have bB := n8_
              have qA := n9_
              have zA := n10_
              clear n0_ n1_ n2_ n3_ n4_ n5_ n6_ n7_ n8_ n9_ n10_
              clear hb hbox hg
              refine hK.out _ _ ⟨(Xd nA.out 0).trans rfl, (Xd nA.out 1).trans rfl, (Xd nA.out 2).trans rfl, (Xd nA.out 3).trans rfl⟩ (fun hHeld => ?_)
              clear hK K
              refine norm_ (a' := ?_) ?_ ?_
              rotate_left
              ·show Act.put _ (some 10) _ = _
               simp only [Act.put, Xa, Xb, Xc, Xj, Xk]
               rfl
              exact norm_ (by simp only [putAll, Act.put, Xa, Xb, Xc]) (hCont (gA, bA) _ ⟨hHeld, (by (with_reducible repeat (first | apply Kd.R_alloc | apply Kd.R_drewN | apply Kd.R_drew)); exact Kd.R_mono gB.out (fun _ hk => ⟨hk.1.1, ⟨hk.2, hk.1.2⟩⟩)), (bb_5 nA.out), (bb_5 xA.out), (bb_5 yA.out), vB.out, uB.out, uA.out, bB.out, qA.out, zA.out, xB.out, eB.out, eA.out, nB.out, (hb_5 HB.out)⟩)
            rintro ⟨gA, bA⟩ w123 ⟨hS_, h0_, h1_, h2_, h3_, h4_, h5_, h6_, h7_, h8_, h9_, h10_, h11_, h12_, h13_, h14_⟩
            have n0_ : Xm (Kd.R k27 27 w123 w.heap.size (fun k_ => k_ ≠ vA ∧ k_ ≠ gA ∧ k_ ≠ bA) v139 t138) := ⟨h0_⟩
            have n1_ : Xm (w123.heap[vA]? = some (.cells #[.int J a0_0, .int J a0_1, .int J a0_2, .int J a0_3] 27 (0, 0))) := ⟨h1_⟩
            have n2_ : Xm (w123.heap[gA]? = some (.cells #[.int J 0, .int J 0, .int J 0, .int J 0] 27 (0, 0))) := ⟨h2_⟩
            have n3_ : Xm (w123.heap[bA]? = some (.cells #[.int J 0, .int J 0, .int J 0, .int J 0] 27 (0, 0))) := ⟨h3_⟩
            have n4_ : Xm (w.heap.size ≤ gA) := ⟨h4_⟩
            have n5_ : Xm (w.heap.size ≤ gA) := ⟨h5_⟩
            have n6_ : Xm (vA ≠ gA) := ⟨h6_⟩
            have n7_ : Xm (gA ≠ vA) := ⟨h7_⟩
            have n8_ : Xm (bA ≠ gA) := ⟨h8_⟩
            have n9_ : Xm (gA ≠ bA) := ⟨h9_⟩
            have n10_ : Xm (w.heap.size ≤ bA) := ⟨h10_⟩
            have n11_ : Xm (w.heap.size ≤ bA) := ⟨h11_⟩
            have n12_ : Xm (vA ≠ bA) := ⟨h12_⟩
            have n13_ : Xm (bA ≠ vA) := ⟨h13_⟩
            have n14_ : Xm (Below w.heap.size w w123) := ⟨h14_⟩
            clear gB
            clear nA
            clear HB
            clear h0_ h1_ h2_ h3_ h4_ h5_ h6_ h7_ h8_ h9_ h10_ h11_ h12_ h13_ h14_
            have gB := n0_
            have nA := n1_
            have xA := n2_
            have yA := n3_
            have vB := n4_
            have uB := n5_
            have uA := n6_
            have bB := n7_
            have qA := n8_
            have zA := n9_
            have xB := n10_
            have eB := n11_
            have eA := n12_
            have nB := n13_
            have HB := n14_
            clear n0_ n1_ n2_ n3_ n4_ n5_ n6_ n7_ n8_ n9_ n10_ n11_ n12_ n13_ n14_
            have hHeld : w123.cell? ⟨vA, 0, none⟩ = some (.int J a0_0) ∧ w123.cell? ⟨vA, 1, none⟩ = some (.int J a0_1) ∧ w123.cell? ⟨vA, 2, none⟩ = some (.int J a0_2) ∧ w123.cell? ⟨vA, 3, none⟩ = some (.int J a0_3) := hS_
            refine norm_ (a' := ?_) ?_ ?_
            rotate_left
            ·simp only [putAll, Act.put, Xa, Xb, Xc]
             rfl
            refine one_ (i := 4) (N := none) #[Zt,Zt,Zt,Zt,Zt,Zf] rfl rfl (by kernel_rfl) (by decide) (fun K hK => ?_)
            have hs124 : w123.cell? ⟨gA, 0, none⟩ = some (.int J 0) := (Xd xA.out 0).trans rfl
            have hfs124 := Xi xA.out 0
            have hns124_0 := uA.out
            have hns124_2 := qA.out
            have hms124_0 := bB.out
            have hms124_2 := zA.out
            have hs125 : w123.cell? ⟨gA, 1, none⟩ = some (.int J 0) := (Xd xA.out 1).trans rfl
            have hfs125 := Xi xA.out 1
            have hns125_0 := uA.out
            have hns125_2 := qA.out
            have hms125_0 := bB.out
            have hms125_2 := zA.out
            have hs126 : w123.cell? ⟨gA, 2, none⟩ = some (.int J 0) := (Xd xA.out 2).trans rfl
            have hfs126 := Xi xA.out 2
            have hns126_0 := uA.out
            have hns126_2 := qA.out
            have hms126_0 := bB.out
            have hms126_2 := zA.out
            have hs127 : w123.cell? ⟨gA, 3, none⟩ = some (.int J 0) := (Xd xA.out 3).trans rfl
            have hfs127 := Xi xA.out 3
            have hns127_0 := uA.out
            have hns127_2 := qA.out
            have hms127_0 := bB.out
            have hms127_2 := zA.out
            refine skip_ (w1 := ?_) (by rfl) rfl ?_ ?_
            rotate_left
            ·go_simp
             rfl
            refine hK.out _ _ ⟨((Xh (p := ⟨gA, _, none⟩) uA.out _).trans (((Xh (p := ⟨gA, _, none⟩) uA.out _).trans (((Xh (p := ⟨gA, _, none⟩) uA.out _).trans (((Xh (p := ⟨gA, _, none⟩) uA.out _).trans (hHeld.1)))))))), ((Xh (p := ⟨gA, _, none⟩) uA.out _).trans (((Xh (p := ⟨gA, _, none⟩) uA.out _).trans (((Xh (p := ⟨gA, _, none⟩) uA.out _).trans (((Xh (p := ⟨gA, _, none⟩) uA.out _).trans (hHeld.2.1)))))))), ((Xh (p := ⟨gA, _, none⟩) uA.out _).trans (((Xh (p := ⟨gA, _, none⟩) uA.out _).trans (((Xh (p := ⟨gA, _, none⟩) uA.out _).trans (((Xh (p := ⟨gA, _, none⟩) uA.out _).trans (hHeld.2.2.1)))))))), ((Xh (p := ⟨gA, _, none⟩) uA.out _).trans (((Xh (p := ⟨gA, _, none⟩) uA.out _).trans (((Xh (p := ⟨gA, _, none⟩) uA.out _).trans (((Xh (p := ⟨gA, _, none⟩) uA.out _).trans (hHeld.2.2.2))))))))⟩ (fun hHeld => ?_)
            clear hK K
            refine one_ (i := 5) (N := none) #[Zt,Zt,Zt,Zt,Zt,Zt] rfl rfl (by kernel_rfl) (by decide) (fun K hK => ?_)
            have hs128 : w123.cell? ⟨bA, 0, none⟩ = some (.int J 0) := (Xd yA.out 0).trans rfl
            have hfs128 := Xi yA.out 0
            have hns128_0 := eA.out
            have hns128_1 := zA.out
            have hms128_0 := nB.out
            have hms128_1 := qA.out
            have hs129 : w123.cell? ⟨bA, 1, none⟩ = some (.int J 0) := (Xd yA.out 1).trans rfl
            have hfs129 := Xi yA.out 1
            have hns129_0 := eA.out
            have hns129_1 := zA.out
            have hms129_0 := nB.out
            have hms129_1 := qA.out
            have hs130 : w123.cell? ⟨bA, 2, none⟩ = some (.int J 0) := (Xd yA.out 2).trans rfl
            have hfs130 := Xi yA.out 2
            have hns130_0 := eA.out
            have hns130_1 := zA.out
            have hms130_0 := nB.out
            have hms130_1 := qA.out
            have hs131 : w123.cell? ⟨bA, 3, none⟩ = some (.int J 0) := (Xd yA.out 3).trans rfl
            have hfs131 := Xi yA.out 3
            have hns131_0 := eA.out
            have hns131_1 := zA.out
            have hms131_0 := nB.out
            have hms131_1 := qA.out
            refine skip_ (w1 := ?_) (by rfl) rfl ?_ ?_
            rotate_left
            ·go_simp
             rfl
            refine hK.out _ _ ⟨((Xh (p := ⟨bA, _, none⟩) eA.out _).trans (((Xh (p := ⟨bA, _, none⟩) eA.out _).trans (((Xh (p := ⟨bA, _, none⟩) eA.out _).trans (((Xh (p := ⟨bA, _, none⟩) eA.out _).trans (hHeld.1)))))))), ((Xh (p := ⟨bA, _, none⟩) eA.out _).trans (((Xh (p := ⟨bA, _, none⟩) eA.out _).trans (((Xh (p := ⟨bA, _, none⟩) eA.out _).trans (((Xh (p := ⟨bA, _, none⟩) eA.out _).trans (hHeld.2.1)))))))), ((Xh (p := ⟨bA, _, none⟩) eA.out _).trans (((Xh (p := ⟨bA, _, none⟩) eA.out _).trans (((Xh (p := ⟨bA, _, none⟩) eA.out _).trans (((Xh (p := ⟨bA, _, none⟩) eA.out _).trans (hHeld.2.2.1)))))))), ((Xh (p := ⟨bA, _, none⟩) eA.out _).trans (((Xh (p := ⟨bA, _, none⟩) eA.out _).trans (((Xh (p := ⟨bA, _, none⟩) eA.out _).trans (((Xh (p := ⟨bA, _, none⟩) eA.out _).trans (hHeld.2.2.2))))))))⟩ (fun hHeld => ?_)
            clear hK K
            refine done_ (by kernel_rfl) ?_
            have hnb132 := bB.out
            have hnc132 := uA.out
            have hnb133 := zA.out
            have hnc133 := qA.out
            have hcz134_0 : w123.cell? ⟨gA, 0, none⟩ = some (.int J 0) := (Xd xA.out 0).trans rfl
            have hcz134_1 : w123.cell? ⟨gA, 1, none⟩ = some (.int J 0) := (Xd xA.out 1).trans rfl
            have hcz134_2 : w123.cell? ⟨gA, 2, none⟩ = some (.int J 0) := (Xd xA.out 2).trans rfl
            have hcz134_3 : w123.cell? ⟨gA, 3, none⟩ = some (.int J 0) := (Xd xA.out 3).trans rfl
            have hfz134_0 := Xi xA.out 0
            have hfz134_1 := Xi xA.out 1
            have hfz134_2 := Xi xA.out 2
            have hfz134_3 := Xi xA.out 3
            have hnb135 := nB.out
            have hnc135 := eA.out
            have hcz136_0 : w123.cell? ⟨bA, 0, none⟩ = some (.int J 0) := (Xd yA.out 0).trans rfl
            have hcz136_1 : w123.cell? ⟨bA, 1, none⟩ = some (.int J 0) := (Xd yA.out 1).trans rfl
            have hcz136_2 : w123.cell? ⟨bA, 2, none⟩ = some (.int J 0) := (Xd yA.out 2).trans rfl
            have hcz136_3 : w123.cell? ⟨bA, 3, none⟩ = some (.int J 0) := (Xd yA.out 3).trans rfl
            have hfz136_0 := Xi yA.out 0
            have hfz136_1 := Xi yA.out 1
            have hfz136_2 := Xi yA.out 2
            have hfz136_3 := Xi yA.out 3
            try go_wp2
            have n0_ : Xm (Kd.R k27 27 ((((((((((w123.setCell ⟨gA, 0, none⟩ (.int J a0_0)).setCell ⟨gA, 1, none⟩ (.int J a0_1)).setCell ⟨gA, 2, none⟩ (.int J a0_2)).setCell ⟨gA, 3, none⟩ (.int J a0_3)).setCell ⟨bA, 0, none⟩ (.int J a0_0)).setCell ⟨bA, 1, none⟩ (.int J a0_1)).setCell ⟨bA, 2, none⟩ (.int J a0_2)).setCell ⟨bA, 3, none⟩ (.int J a0_3)).setCell ⟨gA, 3, none⟩ (.int J a2)).setCell ⟨bA, 1, none⟩ (.int J a2)) w.heap.size (fun k_ => k_ ≠ vA ∧ k_ ≠ gA ∧ k_ ≠ bA) v139 t138) := ⟨by (with_reducible repeat (first | apply Kd.R_alloc | apply Kd.R_drewN | apply Kd.R_drew)); exact Kd.R_mono (Kd.R_far (p := ⟨bA, 1, none⟩) (Kd.R_far (p := ⟨gA, 3, none⟩) (Kd.R_far (p := ⟨bA, 3, none⟩) (Kd.R_far (p := ⟨bA, 2, none⟩) (Kd.R_far (p := ⟨bA, 1, none⟩) (Kd.R_far (p := ⟨bA, 0, none⟩) (Kd.R_far (p := ⟨gA, 3, none⟩) (Kd.R_far (p := ⟨gA, 2, none⟩) (Kd.R_far (p := ⟨gA, 1, none⟩) (Kd.R_far (p := ⟨gA, 0, none⟩) (Kd.R_mono (Kd.R_mono gB.out (fun k_ hk => (⟨hk, hk.2.1⟩ : _ ∧ k_ ≠ gA))) (fun k_ hk => (⟨hk, hk.1.2.2⟩ : _ ∧ k_ ≠ bA))) (fun _ hk => hk.1.2) (.int J a0_0)) (fun _ hk => hk.1.2) (.int J a0_1)) (fun _ hk => hk.1.2) (.int J a0_2)) (fun _ hk => hk.1.2) (.int J a0_3)) (fun _ hk => hk.2) (.int J a0_0)) (fun _ hk => hk.2) (.int J a0_1)) (fun _ hk => hk.2) (.int J a0_2)) (fun _ hk => hk.2) (.int J a0_3)) (fun _ hk => hk.1.2) (.int J a2)) (fun _ hk => hk.2) (.int J a2)) (fun _ hk => ⟨hk.1.1.1, ⟨hk.1.1.2.1, hk.1.1.2.2⟩⟩)⟩
            have n1_ : Xm (((((((((((w123.setCell ⟨gA, 0, none⟩ (.int J a0_0)).setCell ⟨gA, 1, none⟩ (.int J a0_1)).setCell ⟨gA, 2, none⟩ (.int J a0_2)).setCell ⟨gA, 3, none⟩ (.int J a0_3)).setCell ⟨bA, 0, none⟩ (.int J a0_0)).setCell ⟨bA, 1, none⟩ (.int J a0_1)).setCell ⟨bA, 2, none⟩ (.int J a0_2)).setCell ⟨bA, 3, none⟩ (.int J a0_3)).setCell ⟨gA, 3, none⟩ (.int J a2)).setCell ⟨bA, 1, none⟩ (.int J a2)).heap[vA]? = some (.cells #[.int J a0_0, .int J a0_1, .int J a0_2, .int J a0_3] 27 (0, 0))) := ⟨by (with_reducible repeat (first | refine Xf ?_ _ | refine Xe ?_ | refine Xg ?_ _)); refine Xl ?_ eA.out _; (with_reducible repeat (first | refine Xf ?_ _ | refine Xe ?_ | refine Xg ?_ _)); refine Xl ?_ uA.out _; (with_reducible repeat (first | refine Xf ?_ _ | refine Xe ?_ | refine Xg ?_ _)); refine Xl ?_ eA.out _; (with_reducible repeat (first | refine Xf ?_ _ | refine Xe ?_ | refine Xg ?_ _)); refine Xl ?_ eA.out _; (with_reducible repeat (first | refine Xf ?_ _ | refine Xe ?_ | refine Xg ?_ _)); refine Xl ?_ eA.out _; (with_reducible repeat (first | refine Xf ?_ _ | refine Xe ?_ | refine Xg ?_ _)); refine Xl ?_ eA.out _; (with_reducible repeat (first | refine Xf ?_ _ | refine Xe ?_ | refine Xg ?_ _)); refine Xl ?_ uA.out _; (with_reducible repeat (first | refine Xf ?_ _ | refine Xe ?_ | refine Xg ?_ _)); refine Xl ?_ uA.out _; (with_reducible repeat (first | refine Xf ?_ _ | refine Xe ?_ | refine Xg ?_ _)); refine Xl ?_ uA.out _; (with_reducible repeat (first | refine Xf ?_ _ | refine Xe ?_ | refine Xg ?_ _)); refine Xl ?_ uA.out _; (with_reducible repeat (first | refine Xf ?_ _ | refine Xe ?_ | refine Xg ?_ _)); exact nA.out⟩
            have n2_ : Xm (((((((((((w123.setCell ⟨gA, 0, none⟩ (.int J a0_0)).setCell ⟨gA, 1, none⟩ (.int J a0_1)).setCell ⟨gA, 2, none⟩ (.int J a0_2)).setCell ⟨gA, 3, none⟩ (.int J a0_3)).setCell ⟨bA, 0, none⟩ (.int J a0_0)).setCell ⟨bA, 1, none⟩ (.int J a0_1)).setCell ⟨bA, 2, none⟩ (.int J a0_2)).setCell ⟨bA, 3, none⟩ (.int J a0_3)).setCell ⟨gA, 3, none⟩ (.int J a2)).setCell ⟨bA, 1, none⟩ (.int J a2)).heap[gA]? = some (.cells #[.int J a0_0, .int J a0_1, .int J a0_2, .int J a2] 27 (0, 0))) := ⟨by (with_reducible repeat (first | refine Xf ?_ _ | refine Xe ?_ | refine Xg ?_ _)); refine Xl ?_ zA.out _; (with_reducible repeat (first | refine Xf ?_ _ | refine Xe ?_ | refine Xg ?_ _)); refine Xr (cs := #[.int J a0_0, .int J a0_1, .int J a0_2, .int J a0_3]) ?_ 3 _ rfl; (with_reducible repeat (first | refine Xf ?_ _ | refine Xe ?_ | refine Xg ?_ _)); refine Xl ?_ zA.out _; (with_reducible repeat (first | refine Xf ?_ _ | refine Xe ?_ | refine Xg ?_ _)); refine Xl ?_ zA.out _; (with_reducible repeat (first | refine Xf ?_ _ | refine Xe ?_ | refine Xg ?_ _)); refine Xl ?_ zA.out _; (with_reducible repeat (first | refine Xf ?_ _ | refine Xe ?_ | refine Xg ?_ _)); refine Xl ?_ zA.out _; (with_reducible repeat (first | refine Xf ?_ _ | refine Xe ?_ | refine Xg ?_ _)); refine Xr (cs := #[.int J a0_0, .int J a0_1, .int J a0_2, .int J 0]) ?_ 3 _ rfl; (with_reducible repeat (first | refine Xf ?_ _ | refine Xe ?_ | refine Xg ?_ _)); refine Xr (cs := #[.int J a0_0, .int J a0_1, .int J 0, .int J 0]) ?_ 2 _ rfl; (with_reducible repeat (first | refine Xf ?_ _ | refine Xe ?_ | refine Xg ?_ _)); refine Xr (cs := #[.int J a0_0, .int J 0, .int J 0, .int J 0]) ?_ 1 _ rfl; (with_reducible repeat (first | refine Xf ?_ _ | refine Xe ?_ | refine Xg ?_ _)); refine Xr (cs := #[.int J 0, .int J 0, .int J 0, .int J 0]) ?_ 0 _ rfl; (with_reducible repeat (first | refine Xf ?_ _ | refine Xe ?_ | refine Xg ?_ _)); exact xA.out⟩
            have n3_ : Xm (((((((((((w123.setCell ⟨gA, 0, none⟩ (.int J a0_0)).setCell ⟨gA, 1, none⟩ (.int J a0_1)).setCell ⟨gA, 2, none⟩ (.int J a0_2)).setCell ⟨gA, 3, none⟩ (.int J a0_3)).setCell ⟨bA, 0, none⟩ (.int J a0_0)).setCell ⟨bA, 1, none⟩ (.int J a0_1)).setCell ⟨bA, 2, none⟩ (.int J a0_2)).setCell ⟨bA, 3, none⟩ (.int J a0_3)).setCell ⟨gA, 3, none⟩ (.int J a2)).setCell ⟨bA, 1, none⟩ (.int J a2)).heap[bA]? = some (.cells #[.int J a0_0, .int J a2, .int J a0_2, .int J a0_3] 27 (0, 0))) := ⟨by (with_reducible repeat (first | refine Xf ?_ _ | refine Xe ?_ | refine Xg ?_ _)); refine Xr (cs := #[.int J a0_0, .int J a0_1, .int J a0_2, .int J a0_3]) ?_ 1 _ rfl; (with_reducible repeat (first | refine Xf ?_ _ | refine Xe ?_ | refine Xg ?_ _)); refine Xl ?_ qA.out _; (with_reducible repeat (first | refine Xf ?_ _ | refine Xe ?_ | refine Xg ?_ _)); refine Xr (cs := #[.int J a0_0, .int J a0_1, .int J a0_2, .int J 0]) ?_ 3 _ rfl; (with_reducible repeat (first | refine Xf ?_ _ | refine Xe ?_ | refine Xg ?_ _)); refine Xr (cs := #[.int J a0_0, .int J a0_1, .int J 0, .int J 0]) ?_ 2 _ rfl; (with_reducible repeat (first | refine Xf ?_ _ | refine Xe ?_ | refine Xg ?_ _)); refine Xr (cs := #[.int J a0_0, .int J 0, .int J 0, .int J 0]) ?_ 1 _ rfl; (with_reducible repeat (first | refine Xf ?_ _ | refine Xe ?_ | refine Xg ?_ _)); refine Xr (cs := #[.int J 0, .int J 0, .int J 0, .int J 0]) ?_ 0 _ rfl; (with_reducible repeat (first | refine Xf ?_ _ | refine Xe ?_ | refine Xg ?_ _)); refine Xl ?_ qA.out _; (with_reducible repeat (first | refine Xf ?_ _ | refine Xe ?_ | refine Xg ?_ _)); refine Xl ?_ qA.out _; (with_reducible repeat (first | refine Xf ?_ _ | refine Xe ?_ | refine Xg ?_ _)); refine Xl ?_ qA.out _; (with_reducible repeat (first | refine Xf ?_ _ | refine Xe ?_ | refine Xg ?_ _)); refine Xl ?_ qA.out _; (with_reducible repeat (first | refine Xf ?_ _ | refine Xe ?_ | refine Xg ?_ _)); exact yA.out⟩
            have n4_ : Xm (Below w.heap.size w ((((((((((w123.setCell ⟨gA, 0, none⟩ (.int J a0_0)).setCell ⟨gA, 1, none⟩ (.int J a0_1)).setCell ⟨gA, 2, none⟩ (.int J a0_2)).setCell ⟨gA, 3, none⟩ (.int J a0_3)).setCell ⟨bA, 0, none⟩ (.int J a0_0)).setCell ⟨bA, 1, none⟩ (.int J a0_1)).setCell ⟨bA, 2, none⟩ (.int J a0_2)).setCell ⟨bA, 3, none⟩ (.int J a0_3)).setCell ⟨gA, 3, none⟩ (.int J a2)).setCell ⟨bA, 1, none⟩ (.int J a2))) := ⟨by repeat (first | (with_reducible first | exact HB.out | apply below_alloc | apply Xw | apply Xs | refine Xt ?_ yB.out | refine Xt ?_ uB.out | refine Xt ?_ eB.out) | exact HB.out)⟩
            (try clear gB)
            (try clear nA)
            (try clear xA)
            (try clear yA)
            (try clear HB)
            generalize ((((((((((w123.setCell ⟨gA, 0, none⟩ (.int J a0_0)).setCell ⟨gA, 1, none⟩ (.int J a0_1)).setCell ⟨gA, 2, none⟩ (.int J a0_2)).setCell ⟨gA, 3, none⟩ (.int J a0_3)).setCell ⟨bA, 0, none⟩ (.int J a0_0)).setCell ⟨bA, 1, none⟩ (.int J a0_1)).setCell ⟨bA, 2, none⟩ (.int J a0_2)).setCell ⟨bA, 3, none⟩ (.int J a0_3)).setCell ⟨gA, 3, none⟩ (.int J a2)).setCell ⟨bA, 1, none⟩ (.int J a2)) = w137 at n0_ n1_ n2_ n3_ n4_ ⊢
            have gB := n0_
            have nA := n1_
            have xA := n2_
            have yA := n3_
            have HB := n4_
            clear n0_ n1_ n2_ n3_ n4_
            have n0_ := Za (Kd.R_drew gB.out)
            have n1_ := Za (Xe nA.out)
            have n2_ := Za (Xe xA.out)
            have n3_ := Za (Xe yA.out)
            have n4_ := Za (Xs HB.out)
            clear gB
            clear nA
            clear xA
            clear yA
            clear HB
            have gB := n0_
            have nA := n1_
            have xA := n2_
            have yA := n3_
            have HB := n4_
            clear n0_ n1_ n2_ n3_ n4_
            obtain ⟨Ao139, co139, eo139⟩ := Kd.R_slice gB.out
            (first | subst eo139 | (injection eo139 with f1_ f2_ f3_; have f4_ := f1_.symm; have f5_ := f3_.symm; clear f1_ f2_ f3_; subst f4_; subst f5_))
            have p147 : 0 ≤ (0 : Int) := (by omega)
            have q147 : 0 < (t138.length : Int) := of_decide_eq_true (by first | (with_reducible assumption) | assumption)
            obtain ⟨ad147, e147, hx147_0, hx147_1, hx147_2, hx147_3⟩ := at_T27 (Kd.R_reads' gB.out).2.2 0 p147 q147
            cases e147
            have qi147 : (0 < t138.length) = True := eq_true (by omega)
            (try rw [show ((0 : Int)).toNat = 0 from rfl] at hx147_0)
            (try rw [show 0 * 4 = 0 from rfl] at hx147_0)
            (try rw [Addr.add_zero'] at hx147_0)
            (try rw [show ((0 : Int)).toNat = 0 from rfl] at hx147_1)
            (try rw [show 0 * 4 = 0 from rfl] at hx147_1)
            (try rw [Addr.add_zero'] at hx147_1)
            (try rw [show ((0 : Int)).toNat = 0 from rfl] at hx147_2)
            (try rw [show 0 * 4 = 0 from rfl] at hx147_2)
            (try rw [Addr.add_zero'] at hx147_2)
            (try rw [show ((0 : Int)).toNat = 0 from rfl] at hx147_3)
            (try rw [show 0 * 4 = 0 from rfl] at hx147_3)
            (try rw [Addr.add_zero'] at hx147_3)
            replace p147 := eq_true p147
            replace q147 := eq_true q147
            refine start_ (n := 18) (S := fun w' => w'.cell? ⟨gA, 0, none⟩ = some (.int J a0_0) ∧ w'.cell? ⟨gA, 1, none⟩ = some (.int J a0_1) ∧ w'.cell? ⟨gA, 2, none⟩ = some (.int J a0_2) ∧ w'.cell? ⟨gA, 3, none⟩ = some (.int J a2) ∧ w'.cell? ad147 = some (.int J ((rd_T27 t138 0).f0)) ∧ w'.cell? ⟨ad147.block, ad147.off + 1, none⟩ = some (.int J ((rd_T27 t138 0).f1)) ∧ w'.cell? ⟨ad147.block, ad147.off + 2, none⟩ = some (.int J ((rd_T27 t138 0).f2)) ∧ w'.cell? ⟨ad147.block, ad147.off + 3, none⟩ = some (.int J ((rd_T27 t138 0).f3))) (ds := []) #[Zf,Zf,Zf,Zf,Zf,Zf,Zf,Zf,Zf,Zf,Zf,Zf,Zf,Zf,Zf,Zf,Zf,Zf] (by kernel_rfl) rfl rfl ⟨(Xd xA.out 0).trans rfl, (Xd xA.out 1).trans rfl, (Xd xA.out 2).trans rfl, (Xd xA.out 3).trans rfl, hx147_0, hx147_1, hx147_2, hx147_3⟩ (fun hHeld => ?_); refine with_tabW gatherumlaw04_BoxSplits.tab17 gatherumlaw04_BoxSplits.bits17 (fun HT_ HW_ => ?_)
            generalize w137.drew = w138 at gB nA xA yA HB hx147_0 hx147_1 hx147_2 hx147_3 hHeld ⊢
            refine Xo (i := 0) (N := some 61) (v := ?_) (a' := ?_) #[Zt,Zf,Zf,Zf,Zf,Zf,Zf,Zf,Zf,Zf,Zf,Zf,Zf,Zf,Zf,Zf,Zf,Zf] rfl rfl (Xn HT_.out (by kernel_rfl)) (fun _ _ _ h => h) (Or.inl ⟨by rfl, ?_⟩) ?_ ?_
            rotate_left
            ·intro w'
             go_simp
             with_reducible rfl
            rotate_left
            ·simp only [Act.put, Xa, Xb, Xc, Xj, Xk]
             rfl
            refine Xo (i := 1) (N := some 62) (v := ?_) (a' := ?_) #[Zt,Zt,Zf,Zf,Zf,Zf,Zf,Zf,Zf,Zf,Zf,Zf,Zf,Zf,Zf,Zf,Zf,Zf] rfl rfl (Xn HT_.out (by kernel_rfl)) (fun _ _ _ h => h) (Or.inl ⟨by rfl, ?_⟩) ?_ ?_
            rotate_left
            ·intro w'
             go_simp
             with_reducible rfl
            rotate_left
            ·simp only [Act.put, Xa, Xb, Xc, Xj, Xk]
             rfl
            refine Xo (i := 2) (N := some 63) (v := ?_) (a' := ?_) #[Zt,Zt,Zt,Zf,Zf,Zf,Zf,Zf,Zf,Zf,Zf,Zf,Zf,Zf,Zf,Zf,Zf,Zf] rfl rfl (Xn HT_.out (by kernel_rfl)) (fun _ _ _ h => h) (Or.inl ⟨by rfl, ?_⟩) ?_ ?_
            rotate_left
            ·intro w'
             go_simp
             with_reducible rfl
            rotate_left
            ·simp only [Act.put, Xa, Xb, Xc, Xj, Xk]
             rfl
            refine Xo (i := 3) (N := some 64) (v := ?_) (a' := ?_) #[Zt,Zt,Zt,Zt,Zf,Zf,Zf,Zf,Zf,Zf,Zf,Zf,Zf,Zf,Zf,Zf,Zf,Zf] rfl rfl (Xn HT_.out (by kernel_rfl)) (fun _ _ _ h => h) (Or.inl ⟨by rfl, ?_⟩) ?_ ?_
            rotate_left
            ·intro w'
             go_simp
             with_reducible rfl
            rotate_left
            ·simp only [Act.put, Xa, Xb, Xc, Xj, Xk]
             rfl
            refine Xo (i := 4) (N := some 65) (v := ?_) (a' := ?_) #[Zt,Zt,Zt,Zt,Zt,Zf,Zf,Zf,Zf,Zf,Zf,Zf,Zf,Zf,Zf,Zf,Zf,Zf] rfl rfl (Xn HT_.out (by kernel_rfl)) (fun _ _ _ h => h) (Or.inl ⟨by rfl, ?_⟩) ?_ ?_
            rotate_left
            ·intro w'
             go_simp
             with_reducible rfl
            rotate_left
            ·simp only [Act.put, Xa, Xb, Xc, Xj, Xk]
             rfl
            refine Xo (i := 5) (N := some 66) (v := ?_) (a' := ?_) #[Zt,Zt,Zt,Zt,Zt,Zt,Zf,Zf,Zf,Zf,Zf,Zf,Zf,Zf,Zf,Zf,Zf,Zf] rfl rfl (Xn HT_.out (by kernel_rfl)) (fun _ _ _ h => h) (Or.inl ⟨by rfl, ?_⟩) ?_ ?_
            rotate_left
            ·intro w'
             go_simp
             with_reducible rfl
            rotate_left
            ·simp only [Act.put, Xa, Xb, Xc, Xj, Xk]
             rfl
            refine take_ (i := 6) (N := some 67) (v := ?_) (a' := ?_) #[Zt,Zt,Zt,Zt,Zt,Zt,Zt,Zf,Zf,Zf,Zf,Zf,Zf,Zf,Zf,Zf,Zf,Zf] rfl rfl (take_ofW HT_.out HW_.out (by kernel_rfl)) (fun _ _ _ h => h) (Or.inl ⟨by rfl, ?_⟩) hHeld ?_ ?_
            rotate_left
            ·rintro w' ⟨s0, s1, s2, s3, s4, s5, s6, s7⟩
             go_simp
             with_reducible rfl
            rotate_left
            ·simp only [Act.put, Xa, Xb, Xc, Xj, Xk]
             rfl
            refine take_ (i := 7) (N := some 68) (v := ?_) (a' := ?_) #[Zt,Zt,Zt,Zt,Zt,Zt,Zt,Zt,Zf,Zf,Zf,Zf,Zf,Zf,Zf,Zf,Zf,Zf] rfl rfl (take_ofW HT_.out HW_.out (by kernel_rfl)) (fun _ _ _ h => h) (Or.inl ⟨by rfl, ?_⟩) hHeld ?_ ?_
            rotate_left
            ·rintro w' ⟨s0, s1, s2, s3, s4, s5, s6, s7⟩
             go_simp
             with_reducible rfl
            rotate_left
            ·simp only [Act.put, Xa, Xb, Xc, Xj, Xk]
             rfl
            refine Xo (i := 8) (N := some 69) (v := ?_) (a' := ?_) #[Zt,Zt,Zt,Zt,Zt,Zt,Zt,Zt,Zt,Zf,Zf,Zf,Zf,Zf,Zf,Zf,Zf,Zf] rfl rfl (Xn HT_.out (by kernel_rfl)) (fun _ _ _ h => h) (Or.inl ⟨by rfl, ?_⟩) ?_ ?_
            rotate_left
            ·intro w'
             go_simp
             with_reducible rfl
            rotate_left
            ·simp only [Act.put, Xa, Xb, Xc, Xj, Xk]
             rfl
            refine Xo (i := 9) (N := some 70) (v := ?_) (a' := ?_) #[Zt,Zt,Zt,Zt,Zt,Zt,Zt,Zt,Zt,Zt,Zf,Zf,Zf,Zf,Zf,Zf,Zf,Zf] rfl rfl (Xn HT_.out (by kernel_rfl)) (fun _ _ _ h => h) (Or.inl ⟨by rfl, ?_⟩) ?_ ?_
            rotate_left
            ·intro w'
             go_simp
             with_reducible rfl
            rotate_left
            ·simp only [Act.put, Xa, Xb, Xc, Xj, Xk]
             rfl
            refine Xo (i := 10) (N := some 71) (v := ?_) (a' := ?_) #[Zt,Zt,Zt,Zt,Zt,Zt,Zt,Zt,Zt,Zt,Zt,Zf,Zf,Zf,Zf,Zf,Zf,Zf] rfl rfl (Xn HT_.out (by kernel_rfl)) (fun _ _ _ h => h) (Or.inl ⟨by rfl, ?_⟩) ?_ ?_
            rotate_left
            ·intro w'
             go_simp
             with_reducible rfl
            rotate_left
            ·simp only [Act.put, Xa, Xb, Xc, Xj, Xk]
             rfl
            refine Xo (i := 11) (N := some 72) (v := undef) (a' := ?_) #[Zt,Zt,Zt,Zt,Zt,Zt,Zt,Zt,Zt,Zt,Zt,Zt,Zf,Zf,Zf,Zf,Zf,Zf] rfl rfl (Xn HT_.out (by kernel_rfl)) (fun _ _ _ h => h) (Or.inr ⟨by rfl, rfl⟩) ?_ ?_
            rotate_left
            ·simp only [Act.put, Xa, Xb, Xc, Xj, Xk]
             rfl
            refine Xo (i := 12) (N := some 73) (v := undef) (a' := ?_) #[Zt,Zt,Zt,Zt,Zt,Zt,Zt,Zt,Zt,Zt,Zt,Zt,Zt,Zf,Zf,Zf,Zf,Zf] rfl rfl (Xn HT_.out (by kernel_rfl)) (fun _ _ _ h => h) (Or.inr ⟨by rfl, rfl⟩) ?_ ?_
            rotate_left
            ·simp only [Act.put, Xa, Xb, Xc, Xj, Xk]
             rfl
            refine Xo (i := 13) (N := some 74) (v := undef) (a' := ?_) #[Zt,Zt,Zt,Zt,Zt,Zt,Zt,Zt,Zt,Zt,Zt,Zt,Zt,Zt,Zf,Zf,Zf,Zf] rfl rfl (Xn HT_.out (by kernel_rfl)) (fun _ _ _ h => h) (Or.inr ⟨by rfl, rfl⟩) ?_ ?_
            rotate_left
            ·simp only [Act.put, Xa, Xb, Xc, Xj, Xk]
             rfl
            refine Xo (i := 14) (N := some 75) (v := undef) (a' := ?_) #[Zt,Zt,Zt,Zt,Zt,Zt,Zt,Zt,Zt,Zt,Zt,Zt,Zt,Zt,Zt,Zf,Zf,Zf] rfl rfl (Xn HT_.out (by kernel_rfl)) (fun _ _ _ h => h) (Or.inr ⟨by rfl, rfl⟩) ?_ ?_
            rotate_left
            ·simp only [Act.put, Xa, Xb, Xc, Xj, Xk]
             rfl
            refine Xo (i := 15) (N := some 76) (v := undef) (a' := ?_) #[Zt,Zt,Zt,Zt,Zt,Zt,Zt,Zt,Zt,Zt,Zt,Zt,Zt,Zt,Zt,Zt,Zf,Zf] rfl rfl (Xn HT_.out (by kernel_rfl)) (fun _ _ _ h => h) (Or.inr ⟨by rfl, rfl⟩) ?_ ?_
            rotate_left
            ·simp only [Act.put, Xa, Xb, Xc, Xj, Xk]
             rfl
            refine Xo (i := 16) (N := some 77) (v := ?_) (a' := ?_) #[Zt,Zt,Zt,Zt,Zt,Zt,Zt,Zt,Zt,Zt,Zt,Zt,Zt,Zt,Zt,Zt,Zt,Zf] rfl rfl (Xn HT_.out (by kernel_rfl)) (fun _ _ _ h => h) (Or.inl ⟨by rfl, ?_⟩) ?_ ?_
            rotate_left
            ·intro w'
             go_simp
             with_reducible rfl
            rotate_left
            ·simp only [Act.put, Xa, Xb, Xc, Xj, Xk]
             rfl
            refine Xo (i := 17) (N := some 6) (v := ?_) (a' := ?_) #[Zt,Zt,Zt,Zt,Zt,Zt,Zt,Zt,Zt,Zt,Zt,Zt,Zt,Zt,Zt,Zt,Zt,Zt] rfl rfl (Xn HT_.out (by kernel_rfl)) (fun _ _ _ h => h) (Or.inl ⟨by rfl, ?_⟩) ?_ ?_
            rotate_left
            ·intro w'
             go_simp
             with_reducible rfl
            rotate_left
            ·simp only [Act.put, Xa, Xb, Xc, Xj, Xk]
             rfl
            refine done_ (done_of HT_.out (by kernel_rfl)) ?_
            try go_wp2
            go_ret
            exact ⟨by first | rfl | (simp [errW_none, errW_some] <;> rfl) | (simp [*, errW_none, errW_some] <;> rfl), by repeat (first | (with_reducible first | exact HB.out | apply below_alloc | apply Xw | apply Xs | refine Xt ?_ yB.out | refine Xt ?_ uB.out | refine Xt ?_ eB.out) | exact HB.out)⟩
          ·rw [if_neg c97] at H
           exact absurd H (by simp)
         ·rw [if_neg c96] at H
          have c96b0 : ((t138.length : Int) == 2) = Zf := beq_eq_false_iff_ne.mpr c96
          have c96b1 : ((t138.length : Int) != 2) = Zt := bne_iff_ne.mpr c96
          obtain rfl := Option.some.inj H
          try go_wp2
          have n0_ := Za (Kd.R_drew gB.out)
          have n1_ := Za (Xe nA.out)
          have n2_ := Za (Xs HB.out)
          clear gB
          clear nA
          clear HB
          have gB := n0_
          have nA := n1_
          have HB := n2_
          clear n0_ n1_ n2_
          refine start_ (n := 6) (S := fun w' => w'.cell? ⟨vA, 0, none⟩ = some (.int J a0_0) ∧ w'.cell? ⟨vA, 1, none⟩ = some (.int J a0_1) ∧ w'.cell? ⟨vA, 2, none⟩ = some (.int J a0_2) ∧ w'.cell? ⟨vA, 3, none⟩ = some (.int J a0_3)) (ds := []) #[Zf,Zf,Zf,Zf,Zf,Zf] (by kernel_rfl) rfl rfl ⟨(Xd nA.out 0).trans rfl, (Xd nA.out 1).trans rfl, (Xd nA.out 2).trans rfl, (Xd nA.out 3).trans rfl⟩ (fun hHeld => ?_)
          generalize wc.drew = w140 at gB nA HB hHeld ⊢
          refine take_ (i := 0) (N := some 50) (v := ?_) (a' := ?_) #[Zt,Zf,Zf,Zf,Zf,Zf] rfl rfl (by kernel_rfl) (fun _ _ _ h => h) (Or.inl ⟨by rfl, ?_⟩) hHeld ?_ ?_
          rotate_left
          ·rintro w' ⟨s0, s1, s2, s3⟩
           go_simp
           with_reducible rfl
          rotate_left
          ·simp only [Act.put, Xa, Xb, Xc, Xj, Xk]
           rfl
          refine take_ (i := 1) (N := some 51) (v := ?_) (a' := ?_) #[Zt,Zt,Zf,Zf,Zf,Zf] rfl rfl (by kernel_rfl) (fun _ _ _ h => h) (Or.inl ⟨by rfl, ?_⟩) hHeld ?_ ?_
          rotate_left
          ·rintro w' ⟨s0, s1, s2, s3⟩
           go_simp
           with_reducible rfl
          rotate_left
          ·simp only [Act.put, Xa, Xb, Xc, Xj, Xk]
           rfl
          refine join_ (σ := Nat × Nat) 2 #[Zt,Zt,Zt,Zt,Zf,Zf] (fun s_ => [(10, .pointer (some ⟨s_.1, 0, none⟩)), (11, .pointer (some ⟨s_.2, 0, none⟩))]) (fun s_ w' => (w'.cell? ⟨vA, 0, none⟩ = some (.int J a0_0) ∧ w'.cell? ⟨vA, 1, none⟩ = some (.int J a0_1) ∧ w'.cell? ⟨vA, 2, none⟩ = some (.int J a0_2) ∧ w'.cell? ⟨vA, 3, none⟩ = some (.int J a0_3)) ∧ (Kd.R k27 27 w' w.heap.size (fun k_ => k_ ≠ vA ∧ k_ ≠ s_.1 ∧ k_ ≠ s_.2) v139 t138) ∧ (w'.heap[vA]? = some (.cells #[.int J a0_0, .int J a0_1, .int J a0_2, .int J a0_3] 27 (0, 0))) ∧ (w'.heap[s_.1]? = some (.cells #[.int J 0, .int J 0, .int J 0, .int J 0] 27 (0, 0))) ∧ (w'.heap[s_.2]? = some (.cells #[.int J 0, .int J 0, .int J 0, .int J 0] 27 (0, 0))) ∧ (w.heap.size ≤ s_.1) ∧ (w.heap.size ≤ s_.1) ∧ (vA ≠ s_.1) ∧ (s_.1 ≠ vA) ∧ (s_.2 ≠ s_.1) ∧ (s_.1 ≠ s_.2) ∧ (w.heap.size ≤ s_.2) ∧ (w.heap.size ≤ s_.2) ∧ (vA ≠ s_.2) ∧ (s_.2 ≠ vA) ∧ (Below w.heap.size w w')) ?_ ?_
          rotate_left
          ·intro hCont
           refine two_ (i := 2) (j := 3) (Ni := some 10) (Nj := some 11) #[Zt,Zt,Zt,Zf,Zf,Zf] #[Zt,Zt,Zf,Zt,Zf,Zf] rfl rfl rfl rfl (by kernel_rfl) (by decide) (by decide) (fun K hK => ?_) (fun K hK => ?_)
           ·skip
            refine box_step ?hg (N := 10) ?hd (cs := #[.int J 0, .int J 0, .int J 0, .int J 0]) (t := 27) ?hr ?_; (case hd => rfl); (case hg => rfl); (case hr => first | (go_simp; done) | (go_simp; rfl))
            intro gA hg w141 hbox hb
            have n0_ := Za (Kd.R_below (Kd.R_elderB (by (with_reducible repeat (first | apply Kd.R_alloc | apply Kd.R_drewN | apply Kd.R_drew)); exact gB.out) gA (Nat.le_of_eq hg.symm)) hb)
            have n1_ := Za (Xu (g := vA) (o := .cells #[.int J a0_0, .int J a0_1, .int J a0_2, .int J a0_3] 27 (0, 0)) (bb_5 nA.out) hb)
            have n2_ := Za (Xv (hb_5 HB.out) hb)
            have n3_ := Za (hbox)
            have n4_ := Za ((by rw [hg]; exact (Xp (hb_5 HB.out)) : w.heap.size ≤ gA))
            have n5_ := Za ((by rw [hg]; exact (Xp (hb_5 HB.out)) : w.heap.size ≤ gA))
            have n6_ := Za ((by rw [hg]; exact Nat.ne_of_lt (Xq (g := vA) (o := .cells #[.int J a0_0, .int J a0_1, .int J a0_2, .int J a0_3] 27 (0, 0)) (bb_5 nA.out)) : vA ≠ gA))
            have n7_ := Za ((by rw [hg]; exact Nat.ne_of_gt (Xq (g := vA) (o := .cells #[.int J a0_0, .int J a0_1, .int J a0_2, .int J a0_3] 27 (0, 0)) (bb_5 nA.out)) : gA ≠ vA))
            clear gB
            clear nA
            clear HB
            have gB := n0_
            have nA := n1_
            have HB := n2_
            have xA := n3_
            have vB := n4_
            have uB := n5_
            have uA := n6_
            have bB := n7_
            clear n0_ n1_ n2_ n3_ n4_ n5_ n6_ n7_
            clear hb hbox hg
            refine hK.out _ _ ⟨(Xd nA.out 0).trans rfl, (Xd nA.out 1).trans rfl, (Xd nA.out 2).trans rfl, (Xd nA.out 3).trans rfl⟩ (fun hHeld => ?_)
            clear hK K
            refine norm_ (a' := ?_) ?_ ?_
            rotate_left
            ·show Act.put _ (some 10) _ = _
             simp only [Act.put, Xa, Xb, Xc, Xj, Xk]
             rfl
            refine one_ (i := 3) (N := some 11) #[Zt,Zt,Zt,Zt,Zf,Zf] rfl rfl (by kernel_rfl) (by decide) (fun K hK => ?_)
            refine box_step ?hg (N := 11) ?hd (cs := #[.int J 0, .int J 0, .int J 0, .int J 0]) (t := 27) ?hr ?_; (case hd => rfl); (case hg => rfl); (case hr => first | (go_simp; done) | (go_simp; rfl))
            intro bA hg w142 hbox hb
            have n0_ := Za (Kd.R_below (Kd.R_elderB (by (with_reducible repeat (first | apply Kd.R_alloc | apply Kd.R_drewN | apply Kd.R_drew)); exact gB.out) bA (Nat.le_of_eq hg.symm)) hb)
            have n1_ := Za (Xu (g := vA) (o := .cells #[.int J a0_0, .int J a0_1, .int J a0_2, .int J a0_3] 27 (0, 0)) (bb_5 nA.out) hb)
            have n2_ := Za (Xu (g := gA) (o := .cells #[.int J 0, .int J 0, .int J 0, .int J 0] 27 (0, 0)) (bb_5 xA.out) hb)
            have n3_ := Za (Xv (hb_5 HB.out) hb)
            have n4_ := Za (hbox)
            have n5_ := Za ((by rw [hg]; exact (Xp (hb_5 HB.out)) : w.heap.size ≤ bA))
            have n6_ := Za ((by rw [hg]; exact (Xp (hb_5 HB.out)) : w.heap.size ≤ bA))
            have n7_ := Za ((by rw [hg]; exact Nat.ne_of_lt (Xq (g := vA) (o := .cells #[.int J a0_0, .int J a0_1, .int J a0_2, .int J a0_3] 27 (0, 0)) (bb_5 nA.out)) : vA ≠ bA))
            have n8_ := Za ((by rw [hg]; exact Nat.ne_of_gt (Xq (g := vA) (o := .cells #[.int J a0_0, .int J a0_1, .int J a0_2, .int J a0_3] 27 (0, 0)) (bb_5 nA.out)) : bA ≠ vA))
            have n9_ := Za ((by rw [hg]; exact Nat.ne_of_lt (Xq (g := gA) (o := .cells #[.int J 0, .int J 0, .int J 0, .int J 0] 27 (0, 0)) (bb_5 xA.out)) : gA ≠ bA))
            have n10_ := Za ((by rw [hg]; exact Nat.ne_of_gt (Xq (g := gA) (o := .cells #[.int J 0, .int J 0, .int J 0, .int J 0] 27 (0, 0)) (bb_5 xA.out)) : bA ≠ gA))
            clear gB
            clear nA
            clear xA
            clear HB
            have gB := n0_
            have nA := n1_
            have xA := n2_
            have HB := n3_
            have yA := n4_
            have xB := n5_
            have eB := n6_
            have eA := n7_
            have nB := n8_
            have zA := n9_
            have qA := n10_
            clear n0_ n1_ n2_ n3_ n4_ n5_ n6_ n7_ n8_ n9_ n10_
            clear hb hbox hg
            refine hK.out _ _ ⟨(Xd nA.out 0).trans rfl, (Xd nA.out 1).trans rfl, (Xd nA.out 2).trans rfl, (Xd nA.out 3).trans rfl⟩ (fun hHeld => ?_)
            clear hK K
            refine norm_ (a' := ?_) ?_ ?_
            rotate_left
            ·show Act.put _ (some 11) _ = _
             simp only [Act.put, Xa, Xb, Xc, Xj, Xk]
             rfl
            exact norm_ (by simp only [putAll, Act.put, Xa, Xb, Xc]) (hCont (gA, bA) _ ⟨hHeld, (by (with_reducible repeat (first | apply Kd.R_alloc | apply Kd.R_drewN | apply Kd.R_drew)); exact Kd.R_mono gB.out (fun _ hk => ⟨hk.1.1, ⟨hk.1.2, hk.2⟩⟩)), (bb_5 nA.out), (bb_5 xA.out), (bb_5 yA.out), vB.out, uB.out, uA.out, bB.out, qA.out, zA.out, xB.out, eB.out, eA.out, nB.out, (hb_5 HB.out)⟩)
           ·skip
            refine box_step ?hg (N := 11) ?hd (cs := #[.int J 0, .int J 0, .int J 0, .int J 0]) (t := 27) ?hr ?_; (case hd => rfl); (case hg => rfl); (case hr => first | (go_simp; done) | (go_simp; rfl))
            intro bA hg w141 hbox hb
            have n0_ := Za (Kd.R_below (Kd.R_elderB (by (with_reducible repeat (first | apply Kd.R_alloc | apply Kd.R_drewN | apply Kd.R_drew)); exact gB.out) bA (Nat.le_of_eq hg.symm)) hb)
            have n1_ := Za (Xu (g := vA) (o := .cells #[.int J a0_0, .int J a0_1, .int J a0_2, .int J a0_3] 27 (0, 0)) (bb_5 nA.out) hb)
            have n2_ := Za (Xv (hb_5 HB.out) hb)
            have n3_ := Za (hbox)
            have n4_ := Za ((by rw [hg]; exact (Xp (hb_5 HB.out)) : w.heap.size ≤ bA))
            have n5_ := Za ((by rw [hg]; exact (Xp (hb_5 HB.out)) : w.heap.size ≤ bA))
            have n6_ := Za ((by rw [hg]; exact Nat.ne_of_lt (Xq (g := vA) (o := .cells #[.int J a0_0, .int J a0_1, .int J a0_2, .int J a0_3] 27 (0, 0)) (bb_5 nA.out)) : vA ≠ bA))
            have n7_ := Za ((by rw [hg]; exact Nat.ne_of_gt (Xq (g := vA) (o := .cells #[.int J a0_0, .int J a0_1, .int J a0_2, .int J a0_3] 27 (0, 0)) (bb_5 nA.out)) : bA ≠ vA))
            clear gB
            clear nA
            clear HB
            have gB := n0_
            have nA := n1_
            have HB := n2_
            have yA := n3_
            have xB := n4_
            have eB := n5_
            have eA := n6_
            have nB := n7_
            clear n0_ n1_ n2_ n3_ n4_ n5_ n6_ n7_
            clear hb hbox hg
            refine hK.out _ _ ⟨(Xd nA.out 0).trans rfl, (Xd nA.out 1).trans rfl, (Xd nA.out 2).trans rfl, (Xd nA.out 3).trans rfl⟩ (fun hHeld => ?_)
            clear hK K
            refine norm_ (a' := ?_) ?_ ?_
            rotate_left
            ·show Act.put _ (some 11) _ = _
             simp only [Act.put, Xa, Xb, Xc, Xj, Xk]
             rfl
            refine one_ (i := 2) (N := some 10) #[Zt,Zt,Zt,Zt,Zf,Zf] rfl rfl (by kernel_rfl) (by decide) (fun K hK => ?_)
            refine box_step ?hg (N := 10) ?hd (cs := #[.int J 0, .int J 0, .int J 0, .int J 0]) (t := 27) ?hr ?_; (case hd => rfl); (case hg => rfl); (case hr => first | (go_simp; done) | (go_simp; rfl))
            intro gA hg w142 hbox hb
            have n0_ := Za (Kd.R_below (Kd.R_elderB (by (with_reducible repeat (first | apply Kd.R_alloc | apply Kd.R_drewN | apply Kd.R_drew)); exact gB.out) gA (Nat.le_of_eq hg.symm)) hb)
            have n1_ := Za (Xu (g := vA) (o := .cells #[.int J a0_0, .int J a0_1, .int J a0_2, .int J a0_3] 27 (0, 0)) (bb_5 nA.out) hb)
            have n2_ := Za (Xu (g := bA) (o := .cells #[.int J 0, .int J 0, .int J 0, .int J 0] 27 (0, 0)) (bb_5 yA.out) hb)
            have n3_ := Za (Xv (hb_5 HB.out) hb)
            have n4_ := Za (hbox)
            have n5_ := Za ((by rw [hg]; exact (Xp (hb_5 HB.out)) : w.heap.size ≤ gA))
            have n6_ := Za ((by rw [hg]; exact (Xp (hb_5 HB.out)) : w.heap.size ≤ gA))
            have n7_ := Za ((by rw [hg]; exact Nat.ne_of_lt (Xq (g := vA) (o := .cells #[.int J a0_0, .int J a0_1, .int J a0_2, .int J a0_3] 27 (0, 0)) (bb_5 nA.out)) : vA ≠ gA))
            have n8_ := Za ((by rw [hg]; exact Nat.ne_of_gt (Xq (g := vA) (o := .cells #[.int J a0_0, .int J a0_1, .int J a0_2, .int J a0_3] 27 (0, 0)) (bb_5 nA.out)) : gA ≠ vA))
            have n9_ := Za ((by rw [hg]; exact Nat.ne_of_lt (Xq (g := bA) (o := .cells #[.int J 0, .int J 0, .int J 0, .int J 0] 27 (0, 0)) (bb_5 yA.out)) : bA ≠ gA))
            have n10_ := Za ((by rw [hg]; exact Nat.ne_of_gt (Xq (g := bA) (o := .cells #[.int J 0, .int J 0, .int J 0, .int J 0] 27 (0, 0)) (bb_5 yA.out)) : gA ≠ bA))
            clear gB
            clear nA
            clear yA
            clear HB
            have gB := n0_
            have nA := n1_
            have yA := n2_
            have HB := n3_
            have xA := n4_
            have vB := n5_
            have uB := n6_
            have uA := n7_
            have bB := n8_
            have qA := n9_
            have zA := n10_
            clear n0_ n1_ n2_ n3_ n4_ n5_ n6_ n7_ n8_ n9_ n10_
            clear hb hbox hg
            refine hK.out _ _ ⟨(Xd nA.out 0).trans rfl, (Xd nA.out 1).trans rfl, (Xd nA.out 2).trans rfl, (Xd nA.out 3).trans rfl⟩ (fun hHeld => ?_)
            clear hK K
            refine norm_ (a' := ?_) ?_ ?_
            rotate_left
            ·show Act.put _ (some 10) _ = _
             simp only [Act.put, Xa, Xb, Xc, Xj, Xk]
             rfl
            exact norm_ (by simp only [putAll, Act.put, Xa, Xb, Xc]) (hCont (gA, bA) _ ⟨hHeld, (by (with_reducible repeat (first | apply Kd.R_alloc | apply Kd.R_drewN | apply Kd.R_drew)); exact Kd.R_mono gB.out (fun _ hk => ⟨hk.1.1, ⟨hk.2, hk.1.2⟩⟩)), (bb_5 nA.out), (bb_5 xA.out), (bb_5 yA.out), vB.out, uB.out, uA.out, bB.out, qA.out, zA.out, xB.out, eB.out, eA.out, nB.out, (hb_5 HB.out)⟩)
          rintro ⟨gA, bA⟩ w143 ⟨hS_, h0_, h1_, h2_, h3_, h4_, h5_, h6_, h7_, h8_, h9_, h10_, h11_, h12_, h13_, h14_⟩
          have n0_ : Xm (Kd.R k27 27 w143 w.heap.size (fun k_ => k_ ≠ vA ∧ k_ ≠ gA ∧ k_ ≠ bA) v139 t138) := ⟨h0_⟩
          have n1_ : Xm (w143.heap[vA]? = some (.cells #[.int J a0_0, .int J a0_1, .int J a0_2, .int J a0_3] 27 (0, 0))) := ⟨h1_⟩
          have n2_ : Xm (w143.heap[gA]? = some (.cells #[.int J 0, .int J 0, .int J 0, .int J 0] 27 (0, 0))) := ⟨h2_⟩
          have n3_ : Xm (w143.heap[bA]? = some (.cells #[.int J 0, .int J 0, .int J 0, .int J 0] 27 (0, 0))) := ⟨h3_⟩
          have n4_ : Xm (w.heap.size ≤ gA) := ⟨h4_⟩
          have n5_ : Xm (w.heap.size ≤ gA) := ⟨h5_⟩
          have n6_ : Xm (vA ≠ gA) := ⟨h6_⟩
          have n7_ : Xm (gA ≠ vA) := ⟨h7_⟩
          have n8_ : Xm (bA ≠ gA) := ⟨h8_⟩
          have n9_ : Xm (gA ≠ bA) := ⟨h9_⟩
          have n10_ : Xm (w.heap.size ≤ bA) := ⟨h10_⟩
          have n11_ : Xm (w.heap.size ≤ bA) := ⟨h11_⟩
          have n12_ : Xm (vA ≠ bA) := ⟨h12_⟩
          have n13_ : Xm (bA ≠ vA) := ⟨h13_⟩
          have n14_ : Xm (Below w.heap.size w w143) := ⟨h14_⟩
          clear gB
          clear nA
          clear HB
          clear h0_ h1_ h2_ h3_ h4_ h5_ h6_ h7_ h8_ h9_ h10_ h11_ h12_ h13_ h14_
          have gB := n0_
          have nA := n1_
          have xA := n2_
          have yA := n3_
          have vB := n4_
          have uB := n5_
          have uA := n6_
          have bB := n7_
          have qA := n8_
          have zA := n9_
          have xB := n10_
          have eB := n11_
          have eA := n12_
          have nB := n13_
          have HB := n14_
          clear n0_ n1_ n2_ n3_ n4_ n5_ n6_ n7_ n8_ n9_ n10_ n11_ n12_ n13_ n14_
          have hHeld : w143.cell? ⟨vA, 0, none⟩ = some (.int J a0_0) ∧ w143.cell? ⟨vA, 1, none⟩ = some (.int J a0_1) ∧ w143.cell? ⟨vA, 2, none⟩ = some (.int J a0_2) ∧ w143.cell? ⟨vA, 3, none⟩ = some (.int J a0_3) := hS_
          refine norm_ (a' := ?_) ?_ ?_
          rotate_left
          ·simp only [putAll, Act.put, Xa, Xb, Xc]
           rfl
          refine one_ (i := 4) (N := none) #[Zt,Zt,Zt,Zt,Zt,Zf] rfl rfl (by kernel_rfl) (by decide) (fun K hK => ?_)
          have hs144 : w143.cell? ⟨gA, 0, none⟩ = some (.int J 0) := (Xd xA.out 0).trans rfl
          have hfs144 := Xi xA.out 0
          have hns144_0 := uA.out
          have hns144_2 := qA.out
          have hms144_0 := bB.out
          have hms144_2 := zA.out
          have hs145 : w143.cell? ⟨gA, 1, none⟩ = some (.int J 0) := (Xd xA.out 1).trans rfl
          have hfs145 := Xi xA.out 1
          have hns145_0 := uA.out
          have hns145_2 := qA.out
          have hms145_0 := bB.out
          have hms145_2 := zA.out
          have hs146 : w143.cell? ⟨gA, 2, none⟩ = some (.int J 0) := (Xd xA.out 2).trans rfl
          have hfs146 := Xi xA.out 2
          have hns146_0 := uA.out
          have hns146_2 := qA.out
          have hms146_0 := bB.out
          have hms146_2 := zA.out
          have hs147 : w143.cell? ⟨gA, 3, none⟩ = some (.int J 0) := (Xd xA.out 3).trans rfl
          have hfs147 := Xi xA.out 3
          have hns147_0 := uA.out
          have hns147_2 := qA.out
          have hms147_0 := bB.out
          have hms147_2 := zA.out
          refine skip_ (w1 := ?_) (by rfl) rfl ?_ ?_
          rotate_left
          ·go_simp
           rfl
          refine hK.out _ _ ⟨((Xh (p := ⟨gA, _, none⟩) uA.out _).trans (((Xh (p := ⟨gA, _, none⟩) uA.out _).trans (((Xh (p := ⟨gA, _, none⟩) uA.out _).trans (((Xh (p := ⟨gA, _, none⟩) uA.out _).trans (hHeld.1)))))))), ((Xh (p := ⟨gA, _, none⟩) uA.out _).trans (((Xh (p := ⟨gA, _, none⟩) uA.out _).trans (((Xh (p := ⟨gA, _, none⟩) uA.out _).trans (((Xh (p := ⟨gA, _, none⟩) uA.out _).trans (hHeld.2.1)))))))), ((Xh (p := ⟨gA, _, none⟩) uA.out _).trans (((Xh (p := ⟨gA, _, none⟩) uA.out _).trans (((Xh (p := ⟨gA, _, none⟩) uA.out _).trans (((Xh (p := ⟨gA, _, none⟩) uA.out _).trans (hHeld.2.2.1)))))))), ((Xh (p := ⟨gA, _, none⟩) uA.out _).trans (((Xh (p := ⟨gA, _, none⟩) uA.out _).trans (((Xh (p := ⟨gA, _, none⟩) uA.out _).trans (((Xh (p := ⟨gA, _, none⟩) uA.out _).trans (hHeld.2.2.2))))))))⟩ (fun hHeld => ?_)
          clear hK K
          refine one_ (i := 5) (N := none) #[Zt,Zt,Zt,Zt,Zt,Zt] rfl rfl (by kernel_rfl) (by decide) (fun K hK => ?_)
          have hs148 : w143.cell? ⟨bA, 0, none⟩ = some (.int J 0) := (Xd yA.out 0).trans rfl
          have hfs148 := Xi yA.out 0
          have hns148_0 := eA.out
          have hns148_1 := zA.out
          have hms148_0 := nB.out
          have hms148_1 := qA.out
          have hs149 : w143.cell? ⟨bA, 1, none⟩ = some (.int J 0) := (Xd yA.out 1).trans rfl
          have hfs149 := Xi yA.out 1
          have hns149_0 := eA.out
          have hns149_1 := zA.out
          have hms149_0 := nB.out
          have hms149_1 := qA.out
          have hs150 : w143.cell? ⟨bA, 2, none⟩ = some (.int J 0) := (Xd yA.out 2).trans rfl
          have hfs150 := Xi yA.out 2
          have hns150_0 := eA.out
          have hns150_1 := zA.out
          have hms150_0 := nB.out
          have hms150_1 := qA.out
          have hs151 : w143.cell? ⟨bA, 3, none⟩ = some (.int J 0) := (Xd yA.out 3).trans rfl
          have hfs151 := Xi yA.out 3
          have hns151_0 := eA.out
          have hns151_1 := zA.out
          have hms151_0 := nB.out
          have hms151_1 := qA.out
          refine skip_ (w1 := ?_) (by rfl) rfl ?_ ?_
          rotate_left
          ·go_simp
           rfl
          refine hK.out _ _ ⟨((Xh (p := ⟨bA, _, none⟩) eA.out _).trans (((Xh (p := ⟨bA, _, none⟩) eA.out _).trans (((Xh (p := ⟨bA, _, none⟩) eA.out _).trans (((Xh (p := ⟨bA, _, none⟩) eA.out _).trans (hHeld.1)))))))), ((Xh (p := ⟨bA, _, none⟩) eA.out _).trans (((Xh (p := ⟨bA, _, none⟩) eA.out _).trans (((Xh (p := ⟨bA, _, none⟩) eA.out _).trans (((Xh (p := ⟨bA, _, none⟩) eA.out _).trans (hHeld.2.1)))))))), ((Xh (p := ⟨bA, _, none⟩) eA.out _).trans (((Xh (p := ⟨bA, _, none⟩) eA.out _).trans (((Xh (p := ⟨bA, _, none⟩) eA.out _).trans (((Xh (p := ⟨bA, _, none⟩) eA.out _).trans (hHeld.2.2.1)))))))), ((Xh (p := ⟨bA, _, none⟩) eA.out _).trans (((Xh (p := ⟨bA, _, none⟩) eA.out _).trans (((Xh (p := ⟨bA, _, none⟩) eA.out _).trans (((Xh (p := ⟨bA, _, none⟩) eA.out _).trans (hHeld.2.2.2))))))))⟩ (fun hHeld => ?_)
          clear hK K
          refine done_ (by kernel_rfl) ?_
          have hnb152 := bB.out
          have hnc152 := uA.out
          have hnb153 := zA.out
          have hnc153 := qA.out
          have hcz154_0 : w143.cell? ⟨gA, 0, none⟩ = some (.int J 0) := (Xd xA.out 0).trans rfl
          have hcz154_1 : w143.cell? ⟨gA, 1, none⟩ = some (.int J 0) := (Xd xA.out 1).trans rfl
          have hcz154_2 : w143.cell? ⟨gA, 2, none⟩ = some (.int J 0) := (Xd xA.out 2).trans rfl
          have hcz154_3 : w143.cell? ⟨gA, 3, none⟩ = some (.int J 0) := (Xd xA.out 3).trans rfl
          have hfz154_0 := Xi xA.out 0
          have hfz154_1 := Xi xA.out 1
          have hfz154_2 := Xi xA.out 2
          have hfz154_3 := Xi xA.out 3
          have hnb155 := nB.out
          have hnc155 := eA.out
          have hcz156_0 : w143.cell? ⟨bA, 0, none⟩ = some (.int J 0) := (Xd yA.out 0).trans rfl
          have hcz156_1 : w143.cell? ⟨bA, 1, none⟩ = some (.int J 0) := (Xd yA.out 1).trans rfl
          have hcz156_2 : w143.cell? ⟨bA, 2, none⟩ = some (.int J 0) := (Xd yA.out 2).trans rfl
          have hcz156_3 : w143.cell? ⟨bA, 3, none⟩ = some (.int J 0) := (Xd yA.out 3).trans rfl
          have hfz156_0 := Xi yA.out 0
          have hfz156_1 := Xi yA.out 1
          have hfz156_2 := Xi yA.out 2
          have hfz156_3 := Xi yA.out 3
          try go_wp2
          have n0_ : Xm (Kd.R k27 27 ((((((((((w143.setCell ⟨gA, 0, none⟩ (.int J a0_0)).setCell ⟨gA, 1, none⟩ (.int J a0_1)).setCell ⟨gA, 2, none⟩ (.int J a0_2)).setCell ⟨gA, 3, none⟩ (.int J a0_3)).setCell ⟨bA, 0, none⟩ (.int J a0_0)).setCell ⟨bA, 1, none⟩ (.int J a0_1)).setCell ⟨bA, 2, none⟩ (.int J a0_2)).setCell ⟨bA, 3, none⟩ (.int J a0_3)).setCell ⟨gA, 3, none⟩ (.int J a2)).setCell ⟨bA, 1, none⟩ (.int J a2)) w.heap.size (fun k_ => k_ ≠ vA ∧ k_ ≠ gA ∧ k_ ≠ bA) v139 t138) := ⟨by (with_reducible repeat (first | apply Kd.R_alloc | apply Kd.R_drewN | apply Kd.R_drew)); exact Kd.R_mono (Kd.R_far (p := ⟨bA, 1, none⟩) (Kd.R_far (p := ⟨gA, 3, none⟩) (Kd.R_far (p := ⟨bA, 3, none⟩) (Kd.R_far (p := ⟨bA, 2, none⟩) (Kd.R_far (p := ⟨bA, 1, none⟩) (Kd.R_far (p := ⟨bA, 0, none⟩) (Kd.R_far (p := ⟨gA, 3, none⟩) (Kd.R_far (p := ⟨gA, 2, none⟩) (Kd.R_far (p := ⟨gA, 1, none⟩) (Kd.R_far (p := ⟨gA, 0, none⟩) (Kd.R_mono (Kd.R_mono gB.out (fun k_ hk => (⟨hk, hk.2.1⟩ : _ ∧ k_ ≠ gA))) (fun k_ hk => (⟨hk, hk.1.2.2⟩ : _ ∧ k_ ≠ bA))) (fun _ hk => hk.1.2) (.int J a0_0)) (fun _ hk => hk.1.2) (.int J a0_1)) (fun _ hk => hk.1.2) (.int J a0_2)) (fun _ hk => hk.1.2) (.int J a0_3)) (fun _ hk => hk.2) (.int J a0_0)) (fun _ hk => hk.2) (.int J a0_1)) (fun _ hk => hk.2) (.int J a0_2)) (fun _ hk => hk.2) (.int J a0_3)) (fun _ hk => hk.1.2) (.int J a2)) (fun _ hk => hk.2) (.int J a2)) (fun _ hk => ⟨hk.1.1.1, ⟨hk.1.1.2.1, hk.1.1.2.2⟩⟩)⟩
          have n1_ : Xm (((((((((((w143.setCell ⟨gA, 0, none⟩ (.int J a0_0)).setCell ⟨gA, 1, none⟩ (.int J a0_1)).setCell ⟨gA, 2, none⟩ (.int J a0_2)).setCell ⟨gA, 3, none⟩ (.int J a0_3)).setCell ⟨bA, 0, none⟩ (.int J a0_0)).setCell ⟨bA, 1, none⟩ (.int J a0_1)).setCell ⟨bA, 2, none⟩ (.int J a0_2)).setCell ⟨bA, 3, none⟩ (.int J a0_3)).setCell ⟨gA, 3, none⟩ (.int J a2)).setCell ⟨bA, 1, none⟩ (.int J a2)).heap[vA]? = some (.cells #[.int J a0_0, .int J a0_1, .int J a0_2, .int J a0_3] 27 (0, 0))) := ⟨by (with_reducible repeat (first | refine Xf ?_ _ | refine Xe ?_ | refine Xg ?_ _)); refine Xl ?_ eA.out _; (with_reducible repeat (first | refine Xf ?_ _ | refine Xe ?_ | refine Xg ?_ _)); refine Xl ?_ uA.out _; (with_reducible repeat (first | refine Xf ?_ _ | refine Xe ?_ | refine Xg ?_ _)); refine Xl ?_ eA.out _; (with_reducible repeat (first | refine Xf ?_ _ | refine Xe ?_ | refine Xg ?_ _)); refine Xl ?_ eA.out _; (with_reducible repeat (first | refine Xf ?_ _ | refine Xe ?_ | refine Xg ?_ _)); refine Xl ?_ eA.out _; (with_reducible repeat (first | refine Xf ?_ _ | refine Xe ?_ | refine Xg ?_ _)); refine Xl ?_ eA.out _; (with_reducible repeat (first | refine Xf ?_ _ | refine Xe ?_ | refine Xg ?_ _)); refine Xl ?_ uA.out _; (with_reducible repeat (first | refine Xf ?_ _ | refine Xe ?_ | refine Xg ?_ _)); refine Xl ?_ uA.out _; (with_reducible repeat (first | refine Xf ?_ _ | refine Xe ?_ | refine Xg ?_ _)); refine Xl ?_ uA.out _; (with_reducible repeat (first | refine Xf ?_ _ | refine Xe ?_ | refine Xg ?_ _)); refine Xl ?_ uA.out _; (with_reducible repeat (first | refine Xf ?_ _ | refine Xe ?_ | refine Xg ?_ _)); exact nA.out⟩
          have n2_ : Xm (((((((((((w143.setCell ⟨gA, 0, none⟩ (.int J a0_0)).setCell ⟨gA, 1, none⟩ (.int J a0_1)).setCell ⟨gA, 2, none⟩ (.int J a0_2)).setCell ⟨gA, 3, none⟩ (.int J a0_3)).setCell ⟨bA, 0, none⟩ (.int J a0_0)).setCell ⟨bA, 1, none⟩ (.int J a0_1)).setCell ⟨bA, 2, none⟩ (.int J a0_2)).setCell ⟨bA, 3, none⟩ (.int J a0_3)).setCell ⟨gA, 3, none⟩ (.int J a2)).setCell ⟨bA, 1, none⟩ (.int J a2)).heap[gA]? = some (.cells #[.int J a0_0, .int J a0_1, .int J a0_2, .int J a2] 27 (0, 0))) := ⟨by (with_reducible repeat (first | refine Xf ?_ _ | refine Xe ?_ | refine Xg ?_ _)); refine Xl ?_ zA.out _; (with_reducible repeat (first | refine Xf ?_ _ | refine Xe ?_ | refine Xg ?_ _)); refine Xr (cs := #[.int J a0_0, .int J a0_1, .int J a0_2, .int J a0_3]) ?_ 3 _ rfl; (with_reducible repeat (first | refine Xf ?_ _ | refine Xe ?_ | refine Xg ?_ _)); refine Xl ?_ zA.out _; (with_reducible repeat (first | refine Xf ?_ _ | refine Xe ?_ | refine Xg ?_ _)); refine Xl ?_ zA.out _; (with_reducible repeat (first | refine Xf ?_ _ | refine Xe ?_ | refine Xg ?_ _)); refine Xl ?_ zA.out _; (with_reducible repeat (first | refine Xf ?_ _ | refine Xe ?_ | refine Xg ?_ _)); refine Xl ?_ zA.out _; (with_reducible repeat (first | refine Xf ?_ _ | refine Xe ?_ | refine Xg ?_ _)); refine Xr (cs := #[.int J a0_0, .int J a0_1, .int J a0_2, .int J 0]) ?_ 3 _ rfl; (with_reducible repeat (first | refine Xf ?_ _ | refine Xe ?_ | refine Xg ?_ _)); refine Xr (cs := #[.int J a0_0, .int J a0_1, .int J 0, .int J 0]) ?_ 2 _ rfl; (with_reducible repeat (first | refine Xf ?_ _ | refine Xe ?_ | refine Xg ?_ _)); refine Xr (cs := #[.int J a0_0, .int J 0, .int J 0, .int J 0]) ?_ 1 _ rfl; (with_reducible repeat (first | refine Xf ?_ _ | refine Xe ?_ | refine Xg ?_ _)); refine Xr (cs := #[.int J 0, .int J 0, .int J 0, .int J 0]) ?_ 0 _ rfl; (with_reducible repeat (first | refine Xf ?_ _ | refine Xe ?_ | refine Xg ?_ _)); exact xA.out⟩
          have n3_ : Xm (((((((((((w143.setCell ⟨gA, 0, none⟩ (.int J a0_0)).setCell ⟨gA, 1, none⟩ (.int J a0_1)).setCell ⟨gA, 2, none⟩ (.int J a0_2)).setCell ⟨gA, 3, none⟩ (.int J a0_3)).setCell ⟨bA, 0, none⟩ (.int J a0_0)).setCell ⟨bA, 1, none⟩ (.int J a0_1)).setCell ⟨bA, 2, none⟩ (.int J a0_2)).setCell ⟨bA, 3, none⟩ (.int J a0_3)).setCell ⟨gA, 3, none⟩ (.int J a2)).setCell ⟨bA, 1, none⟩ (.int J a2)).heap[bA]? = some (.cells #[.int J a0_0, .int J a2, .int J a0_2, .int J a0_3] 27 (0, 0))) := ⟨by (with_reducible repeat (first | refine Xf ?_ _ | refine Xe ?_ | refine Xg ?_ _)); refine Xr (cs := #[.int J a0_0, .int J a0_1, .int J a0_2, .int J a0_3]) ?_ 1 _ rfl; (with_reducible repeat (first | refine Xf ?_ _ | refine Xe ?_ | refine Xg ?_ _)); refine Xl ?_ qA.out _; (with_reducible repeat (first | refine Xf ?_ _ | refine Xe ?_ | refine Xg ?_ _)); refine Xr (cs := #[.int J a0_0, .int J a0_1, .int J a0_2, .int J 0]) ?_ 3 _ rfl; (with_reducible repeat (first | refine Xf ?_ _ | refine Xe ?_ | refine Xg ?_ _)); refine Xr (cs := #[.int J a0_0, .int J a0_1, .int J 0, .int J 0]) ?_ 2 _ rfl; (with_reducible repeat (first | refine Xf ?_ _ | refine Xe ?_ | refine Xg ?_ _)); refine Xr (cs := #[.int J a0_0, .int J 0, .int J 0, .int J 0]) ?_ 1 _ rfl; (with_reducible repeat (first | refine Xf ?_ _ | refine Xe ?_ | refine Xg ?_ _)); refine Xr (cs := #[.int J 0, .int J 0, .int J 0, .int J 0]) ?_ 0 _ rfl; (with_reducible repeat (first | refine Xf ?_ _ | refine Xe ?_ | refine Xg ?_ _)); refine Xl ?_ qA.out _; (with_reducible repeat (first | refine Xf ?_ _ | refine Xe ?_ | refine Xg ?_ _)); refine Xl ?_ qA.out _; (with_reducible repeat (first | refine Xf ?_ _ | refine Xe ?_ | refine Xg ?_ _)); refine Xl ?_ qA.out _; (with_reducible repeat (first | refine Xf ?_ _ | refine Xe ?_ | refine Xg ?_ _)); refine Xl ?_ qA.out _; (with_reducible repeat (first | refine Xf ?_ _ | refine Xe ?_ | refine Xg ?_ _)); exact yA.out⟩
          have n4_ : Xm (Below w.heap.size w ((((((((((w143.setCell ⟨gA, 0, none⟩ (.int J a0_0)).setCell ⟨gA, 1, none⟩ (.int J a0_1)).setCell ⟨gA, 2, none⟩ (.int J a0_2)).setCell ⟨gA, 3, none⟩ (.int J a0_3)).setCell ⟨bA, 0, none⟩ (.int J a0_0)).setCell ⟨bA, 1, none⟩ (.int J a0_1)).setCell ⟨bA, 2, none⟩ (.int J a0_2)).setCell ⟨bA, 3, none⟩ (.int J a0_3)).setCell ⟨gA, 3, none⟩ (.int J a2)).setCell ⟨bA, 1, none⟩ (.int J a2))) := ⟨by repeat (first | (with_reducible first | exact HB.out | apply below_alloc | apply Xw | apply Xs | refine Xt ?_ yB.out | refine Xt ?_ uB.out | refine Xt ?_ eB.out) | exact HB.out)⟩
          (try clear gB)
          (try clear nA)
          (try clear xA)
          (try clear yA)
          (try clear HB)
          generalize ((((((((((w143.setCell ⟨gA, 0, none⟩ (.int J a0_0)).setCell ⟨gA, 1, none⟩ (.int J a0_1)).setCell ⟨gA, 2, none⟩ (.int J a0_2)).setCell ⟨gA, 3, none⟩ (.int J a0_3)).setCell ⟨bA, 0, none⟩ (.int J a0_0)).setCell ⟨bA, 1, none⟩ (.int J a0_1)).setCell ⟨bA, 2, none⟩ (.int J a0_2)).setCell ⟨bA, 3, none⟩ (.int J a0_3)).setCell ⟨gA, 3, none⟩ (.int J a2)).setCell ⟨bA, 1, none⟩ (.int J a2)) = w157 at n0_ n1_ n2_ n3_ n4_ ⊢
          have gB := n0_
          have nA := n1_
          have xA := n2_
          have yA := n3_
          have HB := n4_
          clear n0_ n1_ n2_ n3_ n4_
          have n0_ := Za (Kd.R_drew gB.out)
          have n1_ := Za (Xe nA.out)
          have n2_ := Za (Xe xA.out)
          have n3_ := Za (Xe yA.out)
          have n4_ := Za (Xs HB.out)
          clear gB
          clear nA
          clear xA
          clear yA
          clear HB
          have gB := n0_
          have nA := n1_
          have xA := n2_
          have yA := n3_
          have HB := n4_
          clear n0_ n1_ n2_ n3_ n4_
          obtain ⟨Ao159, co159, eo159⟩ := Kd.R_slice gB.out
          (first | subst eo159 | (injection eo159 with f1_ f2_ f3_; have f4_ := f1_.symm; have f5_ := f3_.symm; clear f1_ f2_ f3_; subst f4_; subst f5_))
          refine start_ (n := 18) (S := fun w' => True) (ds := []) #[Zf,Zf,Zf,Zf,Zf,Zf,Zf,Zf,Zf,Zf,Zf,Zf,Zf,Zf,Zf,Zf,Zf,Zf] (by kernel_rfl) rfl rfl trivial (fun hHeld => ?_); refine with_tabW gatherumlaw04_BoxSplits.tab17 gatherumlaw04_BoxSplits.bits17 (fun HT_ HW_ => ?_)
          generalize w157.drew = w158 at gB nA xA yA HB hHeld ⊢
          refine Xo (i := 0) (N := some 61) (v := ?_) (a' := ?_) #[Zt,Zf,Zf,Zf,Zf,Zf,Zf,Zf,Zf,Zf,Zf,Zf,Zf,Zf,Zf,Zf,Zf,Zf] rfl rfl (Xn HT_.out (by kernel_rfl)) (fun _ _ _ h => h) (Or.inl ⟨by rfl, ?_⟩) ?_ ?_
          rotate_left
          ·intro w'
           go_simp
           with_reducible rfl
          rotate_left
          ·simp only [Act.put, Xa, Xb, Xc, Xj, Xk]
           rfl
          refine Xo (i := 1) (N := some 62) (v := ?_) (a' := ?_) #[Zt,Zt,Zf,Zf,Zf,Zf,Zf,Zf,Zf,Zf,Zf,Zf,Zf,Zf,Zf,Zf,Zf,Zf] rfl rfl (Xn HT_.out (by kernel_rfl)) (fun _ _ _ h => h) (Or.inl ⟨by rfl, ?_⟩) ?_ ?_
          rotate_left
          ·intro w'
           go_simp
           with_reducible rfl
          rotate_left
          ·simp only [Act.put, Xa, Xb, Xc, Xj, Xk]
           rfl
          refine Xo (i := 2) (N := some 63) (v := ?_) (a' := ?_) #[Zt,Zt,Zt,Zf,Zf,Zf,Zf,Zf,Zf,Zf,Zf,Zf,Zf,Zf,Zf,Zf,Zf,Zf] rfl rfl (Xn HT_.out (by kernel_rfl)) (fun _ _ _ h => h) (Or.inl ⟨by rfl, ?_⟩) ?_ ?_
          rotate_left
          ·intro w'
           go_simp
           with_reducible rfl
          rotate_left
          ·simp only [Act.put, Xa, Xb, Xc, Xj, Xk]
           rfl
          refine Xo (i := 3) (N := some 64) (v := ?_) (a' := ?_) #[Zt,Zt,Zt,Zt,Zf,Zf,Zf,Zf,Zf,Zf,Zf,Zf,Zf,Zf,Zf,Zf,Zf,Zf] rfl rfl (Xn HT_.out (by kernel_rfl)) (fun _ _ _ h => h) (Or.inl ⟨by rfl, ?_⟩) ?_ ?_
          rotate_left
          ·intro w'
           go_simp
           with_reducible rfl
          rotate_left
          ·simp only [Act.put, Xa, Xb, Xc, Xj, Xk]
           rfl
          refine Xo (i := 4) (N := some 65) (v := undef) (a' := ?_) #[Zt,Zt,Zt,Zt,Zt,Zf,Zf,Zf,Zf,Zf,Zf,Zf,Zf,Zf,Zf,Zf,Zf,Zf] rfl rfl (Xn HT_.out (by kernel_rfl)) (fun _ _ _ h => h) (Or.inr ⟨by rfl, rfl⟩) ?_ ?_
          rotate_left
          ·simp only [Act.put, Xa, Xb, Xc, Xj, Xk]
           rfl
          refine Xo (i := 5) (N := some 66) (v := undef) (a' := ?_) #[Zt,Zt,Zt,Zt,Zt,Zt,Zf,Zf,Zf,Zf,Zf,Zf,Zf,Zf,Zf,Zf,Zf,Zf] rfl rfl (Xn HT_.out (by kernel_rfl)) (fun _ _ _ h => h) (Or.inr ⟨by rfl, rfl⟩) ?_ ?_
          rotate_left
          ·simp only [Act.put, Xa, Xb, Xc, Xj, Xk]
           rfl
          refine Xo (i := 6) (N := some 67) (v := undef) (a' := ?_) #[Zt,Zt,Zt,Zt,Zt,Zt,Zt,Zf,Zf,Zf,Zf,Zf,Zf,Zf,Zf,Zf,Zf,Zf] rfl rfl (Xn HT_.out (by kernel_rfl)) (fun _ _ _ h => h) (Or.inr ⟨by rfl, rfl⟩) ?_ ?_
          rotate_left
          ·simp only [Act.put, Xa, Xb, Xc, Xj, Xk]
           rfl
          refine Xo (i := 7) (N := some 68) (v := undef) (a' := ?_) #[Zt,Zt,Zt,Zt,Zt,Zt,Zt,Zt,Zf,Zf,Zf,Zf,Zf,Zf,Zf,Zf,Zf,Zf] rfl rfl (Xn HT_.out (by kernel_rfl)) (fun _ _ _ h => h) (Or.inr ⟨by rfl, rfl⟩) ?_ ?_
          rotate_left
          ·simp only [Act.put, Xa, Xb, Xc, Xj, Xk]
           rfl
          refine Xo (i := 8) (N := some 69) (v := undef) (a' := ?_) #[Zt,Zt,Zt,Zt,Zt,Zt,Zt,Zt,Zt,Zf,Zf,Zf,Zf,Zf,Zf,Zf,Zf,Zf] rfl rfl (Xn HT_.out (by kernel_rfl)) (fun _ _ _ h => h) (Or.inr ⟨by rfl, rfl⟩) ?_ ?_
          rotate_left
          ·simp only [Act.put, Xa, Xb, Xc, Xj, Xk]
           rfl
          refine Xo (i := 9) (N := some 70) (v := ?_) (a' := ?_) #[Zt,Zt,Zt,Zt,Zt,Zt,Zt,Zt,Zt,Zt,Zf,Zf,Zf,Zf,Zf,Zf,Zf,Zf] rfl rfl (Xn HT_.out (by kernel_rfl)) (fun _ _ _ h => h) (Or.inl ⟨by rfl, ?_⟩) ?_ ?_
          rotate_left
          ·intro w'
           go_simp
           with_reducible rfl
          rotate_left
          ·simp only [Act.put, Xa, Xb, Xc, Xj, Xk]
           rfl
          refine Xo (i := 10) (N := some 71) (v := ?_) (a' := ?_) #[Zt,Zt,Zt,Zt,Zt,Zt,Zt,Zt,Zt,Zt,Zt,Zf,Zf,Zf,Zf,Zf,Zf,Zf] rfl rfl (Xn HT_.out (by kernel_rfl)) (fun _ _ _ h => h) (Or.inl ⟨by rfl, ?_⟩) ?_ ?_
          rotate_left
          ·intro w'
           go_simp
           with_reducible rfl
          rotate_left
          ·simp only [Act.put, Xa, Xb, Xc, Xj, Xk]
           rfl
          refine Xo (i := 11) (N := some 72) (v := undef) (a' := ?_) #[Zt,Zt,Zt,Zt,Zt,Zt,Zt,Zt,Zt,Zt,Zt,Zt,Zf,Zf,Zf,Zf,Zf,Zf] rfl rfl (Xn HT_.out (by kernel_rfl)) (fun _ _ _ h => h) (Or.inr ⟨by rfl, rfl⟩) ?_ ?_
          rotate_left
          ·simp only [Act.put, Xa, Xb, Xc, Xj, Xk]
           rfl
          refine Xo (i := 12) (N := some 73) (v := undef) (a' := ?_) #[Zt,Zt,Zt,Zt,Zt,Zt,Zt,Zt,Zt,Zt,Zt,Zt,Zt,Zf,Zf,Zf,Zf,Zf] rfl rfl (Xn HT_.out (by kernel_rfl)) (fun _ _ _ h => h) (Or.inr ⟨by rfl, rfl⟩) ?_ ?_
          rotate_left
          ·simp only [Act.put, Xa, Xb, Xc, Xj, Xk]
           rfl
          refine Xo (i := 13) (N := some 74) (v := undef) (a' := ?_) #[Zt,Zt,Zt,Zt,Zt,Zt,Zt,Zt,Zt,Zt,Zt,Zt,Zt,Zt,Zf,Zf,Zf,Zf] rfl rfl (Xn HT_.out (by kernel_rfl)) (fun _ _ _ h => h) (Or.inr ⟨by rfl, rfl⟩) ?_ ?_
          rotate_left
          ·simp only [Act.put, Xa, Xb, Xc, Xj, Xk]
           rfl
          refine Xo (i := 14) (N := some 75) (v := undef) (a' := ?_) #[Zt,Zt,Zt,Zt,Zt,Zt,Zt,Zt,Zt,Zt,Zt,Zt,Zt,Zt,Zt,Zf,Zf,Zf] rfl rfl (Xn HT_.out (by kernel_rfl)) (fun _ _ _ h => h) (Or.inr ⟨by rfl, rfl⟩) ?_ ?_
          rotate_left
          ·simp only [Act.put, Xa, Xb, Xc, Xj, Xk]
           rfl
          refine Xo (i := 15) (N := some 76) (v := undef) (a' := ?_) #[Zt,Zt,Zt,Zt,Zt,Zt,Zt,Zt,Zt,Zt,Zt,Zt,Zt,Zt,Zt,Zt,Zf,Zf] rfl rfl (Xn HT_.out (by kernel_rfl)) (fun _ _ _ h => h) (Or.inr ⟨by rfl, rfl⟩) ?_ ?_
          rotate_left
          ·simp only [Act.put, Xa, Xb, Xc, Xj, Xk]
           rfl
          refine Xo (i := 16) (N := some 77) (v := ?_) (a' := ?_) #[Zt,Zt,Zt,Zt,Zt,Zt,Zt,Zt,Zt,Zt,Zt,Zt,Zt,Zt,Zt,Zt,Zt,Zf] rfl rfl (Xn HT_.out (by kernel_rfl)) (fun _ _ _ h => h) (Or.inl ⟨by rfl, ?_⟩) ?_ ?_
          rotate_left
          ·intro w'
           go_simp
           with_reducible rfl
          rotate_left
          ·simp only [Act.put, Xa, Xb, Xc, Xj, Xk]
           rfl
          refine Xo (i := 17) (N := some 6) (v := ?_) (a' := ?_) #[Zt,Zt,Zt,Zt,Zt,Zt,Zt,Zt,Zt,Zt,Zt,Zt,Zt,Zt,Zt,Zt,Zt,Zt] rfl rfl (Xn HT_.out (by kernel_rfl)) (fun _ _ _ h => h) (Or.inl ⟨by rfl, ?_⟩) ?_ ?_
          rotate_left
          ·intro w'
           go_simp
           with_reducible rfl
          rotate_left
          ·simp only [Act.put, Xa, Xb, Xc, Xj, Xk]
           rfl
          refine done_ (done_of HT_.out (by kernel_rfl)) ?_
          try go_wp2
          go_ret
          exact ⟨by first | rfl | (simp [errW_none, errW_some] <;> rfl) | (simp [*, errW_none, errW_some] <;> rfl), by repeat (first | (with_reducible first | exact HB.out | apply below_alloc | apply Xw | apply Xs | refine Xt ?_ yB.out | refine Xt ?_ uB.out | refine Xt ?_ eB.out) | exact HB.out)⟩
 ·replace c5 := Bool.eq_false_iff.mpr c5
  subst c5
  have H1 : (some Zf) = some r := by rw [if_neg (show ¬ (Zf = Zt) by decide)] at H; exact H
  clear H
  have H := H1
  clear H1
  obtain rfl := Option.some.inj H
  go_enter Try.func4, Try.ntmps4
  go_wp2_with (first | ((with_reducible refine gate_dst (N := 3) rfl ?_); refine box_event ?hg (N := 3) ?hd (cs := #[.int J a0_0, .int J a0_1, .int J a0_2, .int J a0_3]) (t := 27) ?hr ?_; (case hd => rfl); (case hg => rfl); (case hr => first | (go_simp; done) | (go_simp; rfl)); intro vA hg w160 hbox hb; have n0_ := Za (Xv (hb_5 HB.out) hb); have n1_ := Za (hbox); have n2_ := Za ((by rw [hg]; exact (Xp (hb_5 HB.out)) : w.heap.size ≤ vA)); have n3_ := Za ((by rw [hg]; exact (Xp (hb_5 HB.out)) : w.heap.size ≤ vA)); clear HB; have HB := n0_; have nA := n1_; have GW136 := n2_; have yB := n3_; clear n0_ n1_ n2_ n3_; clear hb hbox hg) | ((with_reducible refine gate_callee (f := 22) rfl ?_); refine goesL_ (some 12) rfl rfl Try.func22 (by kernel_rfl) rfl #[] rfl (by (try simp only [List.map_toArray, List.map_cons, List.map_nil]); first | done | rfl | (simp only [List.length_drop, List.length_take]; rfl)) ?_; (with_reducible refine (gatherumlaw04_alive.calls k  Zf _ A4.out).mono ?_); rintro e w161 ⟨rfl, hb⟩; refine ⟨_, rfl, ?_⟩; have n0_ := Za (Xu (g := vA) (o := .cells #[.int J a0_0, .int J a0_1, .int J a0_2, .int J a0_3] 27 (0, 0)) (bb_5 nA.out) hb); have n1_ := Za (Xv (hb_5 HB.out) hb); clear nA; clear HB; have nA := n0_; have HB := n1_; clear n0_ n1_; (try clear hb); (try clear hb2); (try clear hk); (try clear hi)))
  go_ret
  exact ⟨by first | rfl | (simp [errW_none, errW_some] <;> rfl) | (simp [*, errW_none, errW_some] <;> rfl), by repeat (first | (with_reducible first | exact HB.out | apply below_alloc | apply Xw | apply Xs | refine Xt ?_ yB.out) | exact HB.out)⟩

end Go.Proofs.Ytnahjeeochfljaa.PBoxSplits
