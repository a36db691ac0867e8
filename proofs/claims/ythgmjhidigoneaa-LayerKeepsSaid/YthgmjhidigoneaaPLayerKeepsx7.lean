import Derived.Test.YthgmjhidigoneaaPLayerKeepsx0
import Derived.Test.YthgmjhidigoneaaPLayerKeepsx6
namespace Go.Proofs.Ythgmjhidigoneaa.PLayerKeeps
open Go.RowKit Go.Proofs.YthgmjhidigoneaaW.PrintWords Go.Proofs.YthgmjhidigoneaaW.PrintLast Go.Proofs.YthgmjhidigoneaaW.PrintMore
open Bool renaming false → Zf
open Go.Proofs.YthgmjhidigoneaaW.PrintWords.Aside0 renaming mk → Za
open List renaming setIfInBounds_toArray → Xa, set_cons_zero → Xb, set_cons_succ → Xc
open Go.Proofs.YthgmjhidigoneaaW.PrintWords renaming blk_drewN → Xd, blk_alloc → Xe, blk_cell → Xf, blk_drew → Xg, blk_frozen → Xh, cell_far → Xi, blk_far → Xj, blk_below → Xk, below_size → Xl
attribute [local go_sem] max2_int min2_int max_two min_two max_three min_three max_four min_four   -- for this text's walks alone
set_option linter.unusedVariables false
set_option linter.unusedSimpArgs false
theorem bb_7 {p q : Prop} (h : q) (f : q → p := by intro h_; (with_reducible repeat (first | refine blk_drewN ?_ _ | refine blk_drew ?_ | refine blk_alloc ?_ _)); exact h_) : p := f h
theorem hb_7 {B : Nat} {w W W1 : World} (h : Below B w W) (f : Below B w W → Below B w W1 := by intro h_; repeat (first | (with_reducible first | exact h_ | apply below_alloc | apply pw_below_drewN | apply below_drew1 | refine below_set ?_ (Aside0.out (by assumption))) | exact h_)) : Below B w W1 := f h

/-! ### box_Split: function 87 -/
def box_Split.j0 : Nat → Bool → Int → Bool → Int → Int → Int → Int → Int → Int → Int → Int → Int → Int → Int → Int → Option ((List (S37)))
 | 0, _, _, _, _, _, _, _, _, _, _, _, _, _, _, _ => none
 | k + 1, x1, x2, x16, x145000, x145001, x145002, x145003, x146000, x146001, x146002, x146003, x147000, x147001, x147002, x147003 => if x16 = true then (some (([(⟨x146000, x146001, x2, x146003⟩ : S37), (⟨x2, x147001, x147002, x147003⟩ : S37)] : List (S37)))) else (if x1 = true then (some (([(⟨x145000, x145001, x145002, x145003⟩ : S37)] : List (S37)))) else (if x145001 < x2 then (if x2 < x145003 then (some (([(⟨x146000, x146001, x146002, x2⟩ : S37), (⟨x147000, x2, x147002, x147003⟩ : S37)] : List (S37)))) else (some (([(⟨x145000, x145001, x145002, x145003⟩ : S37)] : List (S37))))) else (some (([(⟨x145000, x145001, x145002, x145003⟩ : S37)] : List (S37))))))
def box_Split.f (k : Nat) (a0_0 : Int) (a0_1 : Int) (a0_2 : Int) (a0_3 : Int) (a1 : Bool) (a2 : Int) : Option ((List (S37))) := (box_Empty.f a0_0 a0_1 a0_2 a0_3).bind fun t147 => (if t147 = true then (some ([] : List (S37))) else (if a1 = true then (if a0_0 < a2 then (box_Split.j0 k a1 a2 (decide (a2 < a0_2)) a0_0 a0_1 a0_2 a0_3 a0_0 a0_1 a0_2 a0_3 a0_0 a0_1 a0_2 a0_3) else (box_Split.j0 k a1 a2 Zf a0_0 a0_1 a0_2 a0_3 a0_0 a0_1 a0_2 a0_3 a0_0 a0_1 a0_2 a0_3)) else (box_Split.j0 k a1 a2 Zf a0_0 a0_1 a0_2 a0_3 a0_0 a0_1 a0_2 a0_3 a0_0 a0_1 a0_2 a0_3)))
theorem box_Split.mono_l : ∀ k, (∀ y0 y1 y2 y3 y4 y5 y6 y7 y8 y9 y10 y11 y12 y13 y14, LeO (box_Split.j0 k y0 y1 y2 y3 y4 y5 y6 y7 y8 y9 y10 y11 y12 y13 y14) (box_Split.j0 (k + 1) y0 y1 y2 y3 y4 y5 y6 y7 y8 y9 y10 y11 y12 y13 y14))
 | 0 => fun _ _ _ _ _ _ _ _ _ _ _ _ _ _ _ r h => by simp [box_Split.j0] at h
 | k + 1 => by
  have ih0 := box_Split.mono_l k
  ·intro y0 y1 y2 y3 y4 y5 y6 y7 y8 y9 y10 y11 y12 y13 y14
   unfold box_Split.j0
   repeat' first
   | (with_reducible exact ih0 _ _ _ _ _ _ _ _ _ _ _ _ _ _ _)
   | (with_reducible exact LeO.refl _)
   | (with_reducible exact LeO.none _)
   | (with_reducible refine LeO.ite ?_ ?_)
   | (with_reducible refine LeO.bind ?_ (fun _ => ?_))
   | exact ih0 _ _ _ _ _ _ _ _ _ _ _ _ _ _ _
   | exact LeO.none _
   | refine LeO.ite ?_ ?_
   | refine LeO.bind ?_ (fun _ => ?_)
theorem box_Split.mono : ∀ a0 a1 a2 a3 a4 a5 k, LeO (box_Split.f k a0 a1 a2 a3 a4 a5) (box_Split.f (k + 1) a0 a1 a2 a3 a4 a5) := by
 intro a0 a1 a2 a3 a4 a5 k
 have ih0 := box_Split.mono_l k
 unfold box_Split.f
 repeat' first
   | (with_reducible exact ih0 _ _ _ _ _ _ _ _ _ _ _ _ _ _ _)
   | (with_reducible exact LeO.refl _)
   | (with_reducible exact LeO.none _)
   | (with_reducible refine LeO.ite ?_ ?_)
   | (with_reducible refine LeO.bind ?_ (fun _ => ?_))
   | exact ih0 _ _ _ _ _ _ _ _ _ _ _ _ _ _ _
   | exact LeO.none _
   | refine LeO.ite ?_ ?_
   | refine LeO.bind ?_ (fun _ => ?_)
set_option maxHeartbeats 8000000 in
set_option maxRecDepth 100000 in
theorem box_Split.calls (k : Nat) (a0_0 : Int) (a0_1 : Int) (a0_2 : Int) (a0_3 : Int) (a1 : Bool) (a2 : Int) (r : List (S37)) (w : World) (h : box_Split.f k a0_0 a0_1 a0_2 a0_3 a1 a2 = some r) :
  Calls Try.prog 87 #[.agg #[.int .i64 a0_0, .int .i64 a0_1, .int .i64 a0_2, .int .i64 a0_3], .bool a1, .int .i64 a2] w fun e w' => ∃ v0_ : Value, e = .returned (v0_) ∧ Kd.R k37 37 w' w.heap.size (fun _ => True) v0_ r ∧ Below w.heap.size w w' := by
 have hu37 := Try.underlying37
 have HB := Za (Below.refl w.heap.size w)
 have H : ((box_Empty.f a0_0 a0_1 a0_2 a0_3).bind fun t147 => (if t147 = true then (some ([] : List (S37))) else (if a1 = true then (if a0_0 < a2 then (box_Split.j0 k a1 a2 (decide (a2 < a0_2)) a0_0 a0_1 a0_2 a0_3 a0_0 a0_1 a0_2 a0_3 a0_0 a0_1 a0_2 a0_3) else (box_Split.j0 k a1 a2 Zf a0_0 a0_1 a0_2 a0_3 a0_0 a0_1 a0_2 a0_3 a0_0 a0_1 a0_2 a0_3)) else (box_Split.j0 k a1 a2 Zf a0_0 a0_1 a0_2 a0_3 a0_0 a0_1 a0_2 a0_3 a0_0 a0_1 a0_2 a0_3)))) = some r := h
 clear h
 replace H := Option.bind_eq_some_iff.mp H
 obtain ⟨t147, A40, H⟩ := H
 replace H : (if t147 = true then (some ([] : List (S37))) else (if a1 = true then (if a0_0 < a2 then (box_Split.j0 k a1 a2 (decide (a2 < a0_2)) a0_0 a0_1 a0_2 a0_3 a0_0 a0_1 a0_2 a0_3 a0_0 a0_1 a0_2 a0_3) else (box_Split.j0 k a1 a2 Zf a0_0 a0_1 a0_2 a0_3 a0_0 a0_1 a0_2 a0_3 a0_0 a0_1 a0_2 a0_3)) else (box_Split.j0 k a1 a2 Zf a0_0 a0_1 a0_2 a0_3 a0_0 a0_1 a0_2 a0_3 a0_0 a0_1 a0_2 a0_3))) = some r := H
 have A4 := Za A40
 clear A40
 by_cases c5 : t147 = true
 ·subst c5
  have H1 : (some ([] : List (S37))) = some r := by rw [if_pos rfl] at H; exact H
  clear H
  have H := H1
  clear H1
  obtain rfl := Option.some.inj H
  go_enter Try.func87, Try.ntmps87
  try go_wp2_with (first | ((with_reducible refine gate_dst (N := 3) rfl ?_); refine box_event ?hg (N := 3) ?hd (cs := #[.int .i64 a0_0, .int .i64 a0_1, .int .i64 a0_2, .int .i64 a0_3]) (t := 37) ?hr ?_; (case hd => rfl); (case hg => rfl); (case hr => first | (go_simp; done) | (go_simp; rfl)); intro gb144 hg w6 hbox hb; have n0_ := Za (below_step (hb_7 HB.out) hb); have n1_ := Za (hbox); have n2_ := Za ((by rw [hg]; exact (Xl (hb_7 HB.out)) : w.heap.size ≤ gb144)); have n3_ := Za ((by rw [hg]; exact (Xl (hb_7 HB.out)) : w.heap.size ≤ gb144)); clear HB; have HB := n0_; have BK144 := n1_; have GW144 := n2_; have GE144 := n3_; clear n0_ n1_ n2_ n3_; clear hb hbox hg))
  have n0_ := Za (Xg BK144.out)
  have n1_ := Za (below_drew1 HB.out)
  clear BK144
  clear HB
  have BK144 := n0_
  have HB := n1_
  clear n0_ n1_
  refine start_ (n := 6) (S := fun w' => w'.cell? ⟨gb144, 0, none⟩ = some (.int .i64 a0_0) ∧ w'.cell? ⟨gb144, 1, none⟩ = some (.int .i64 a0_1) ∧ w'.cell? ⟨gb144, 2, none⟩ = some (.int .i64 a0_2) ∧ w'.cell? ⟨gb144, 3, none⟩ = some (.int .i64 a0_3)) (ds := []) #[Zf,Zf,Zf,Zf,Zf,Zf] (by kernel_rfl) rfl rfl ⟨(Xf BK144.out 0).trans rfl, (Xf BK144.out 1).trans rfl, (Xf BK144.out 2).trans rfl, (Xf BK144.out 3).trans rfl⟩ (fun hHeld => ?_)
  generalize w6.drew = w7 at BK144 HB hHeld ⊢
  refine take_ (i := 0) (N := some 9) (v := ?_) (a' := ?_) #[true,Zf,Zf,Zf,Zf,Zf] rfl rfl (by kernel_rfl) (fun _ _ _ h => h) (Or.inl ⟨by rfl, ?_⟩) hHeld ?_ ?_
  rotate_left
  ·rintro w' ⟨s0, s1, s2, s3⟩
   go_simp
   with_reducible rfl
  rotate_left
  ·simp only [Act.put, Xa, Xb, Xc, i64_w, i32_w]
   rfl
  refine take_ (i := 1) (N := some 10) (v := ?_) (a' := ?_) #[true,true,Zf,Zf,Zf,Zf] rfl rfl (by kernel_rfl) (fun _ _ _ h => h) (Or.inl ⟨by rfl, ?_⟩) hHeld ?_ ?_
  rotate_left
  ·rintro w' ⟨s0, s1, s2, s3⟩
   go_simp
   with_reducible rfl
  rotate_left
  ·simp only [Act.put, Xa, Xb, Xc, i64_w, i32_w]
   rfl
  refine join_ (σ := Nat × Nat) 2 #[true,true,true,true,Zf,Zf] (fun s_ => [(7, .pointer (some ⟨s_.1, 0, none⟩)), (8, .pointer (some ⟨s_.2, 0, none⟩))]) (fun s_ w' => (w'.cell? ⟨gb144, 0, none⟩ = some (.int .i64 a0_0) ∧ w'.cell? ⟨gb144, 1, none⟩ = some (.int .i64 a0_1) ∧ w'.cell? ⟨gb144, 2, none⟩ = some (.int .i64 a0_2) ∧ w'.cell? ⟨gb144, 3, none⟩ = some (.int .i64 a0_3)) ∧ (w'.heap[gb144]? = some (.cells #[.int .i64 a0_0, .int .i64 a0_1, .int .i64 a0_2, .int .i64 a0_3] 37 (0, 0))) ∧ (w'.heap[s_.1]? = some (.cells #[.int .i64 0, .int .i64 0, .int .i64 0, .int .i64 0] 37 (0, 0))) ∧ (w'.heap[s_.2]? = some (.cells #[.int .i64 0, .int .i64 0, .int .i64 0, .int .i64 0] 37 (0, 0))) ∧ (w.heap.size ≤ s_.1) ∧ (w.heap.size ≤ s_.1) ∧ (gb144 ≠ s_.1) ∧ (s_.1 ≠ gb144) ∧ (s_.2 ≠ s_.1) ∧ (s_.1 ≠ s_.2) ∧ (w.heap.size ≤ s_.2) ∧ (w.heap.size ≤ s_.2) ∧ (gb144 ≠ s_.2) ∧ (s_.2 ≠ gb144) ∧ (Below w.heap.size w w')) ?_ ?_
  rotate_left
  ·intro hCont
   refine two_ (i := 2) (j := 3) (Ni := some 7) (Nj := some 8) #[true,true,true,Zf,Zf,Zf] #[true,true,Zf,true,Zf,Zf] rfl rfl rfl rfl (by kernel_rfl) (by decide) (by decide) (fun K hK => ?_) (fun K hK => ?_)
   ·skip
    refine box_step ?hg (N := 7) ?hd (cs := #[.int .i64 0, .int .i64 0, .int .i64 0, .int .i64 0]) (t := 37) ?hr ?_; (case hd => rfl); (case hg => rfl); (case hr => first | (go_simp; done) | (go_simp; rfl))
    intro gb145 hg w8 hbox hb
    have n0_ := Za (Xk (g := gb144) (o := .cells #[.int .i64 a0_0, .int .i64 a0_1, .int .i64 a0_2, .int .i64 a0_3] 37 (0, 0)) (bb_7 BK144.out) hb)
    have n1_ := Za (below_step (hb_7 HB.out) hb)
    have n2_ := Za (hbox)
    have n3_ := Za ((by rw [hg]; exact (Xl (hb_7 HB.out)) : w.heap.size ≤ gb145))
    have n4_ := Za ((by rw [hg]; exact (Xl (hb_7 HB.out)) : w.heap.size ≤ gb145))
    have n5_ := Za ((by rw [hg]; exact Nat.ne_of_lt (blk_lt (g := gb144) (o := .cells #[.int .i64 a0_0, .int .i64 a0_1, .int .i64 a0_2, .int .i64 a0_3] 37 (0, 0)) (bb_7 BK144.out)) : gb144 ≠ gb145))
    have n6_ := Za ((by rw [hg]; exact Nat.ne_of_gt (blk_lt (g := gb144) (o := .cells #[.int .i64 a0_0, .int .i64 a0_1, .int .i64 a0_2, .int .i64 a0_3] 37 (0, 0)) (bb_7 BK144.out)) : gb145 ≠ gb144))
    clear BK144
    clear HB
    have BK144 := n0_
    have HB := n1_
    have BK145 := n2_
    have GW145 := n3_
    have GE145 := n4_
    have NB144_145 := n5_
    have NB145_144 := n6_
    clear n0_ n1_ n2_ n3_ n4_ n5_ n6_
    clear hb hbox hg
    refine hK.out _ _ ⟨(Xf BK144.out 0).trans rfl, (Xf BK144.out 1).trans rfl, (Xf BK144.out 2).trans rfl, (Xf BK144.out 3).trans rfl⟩ (fun hHeld => ?_)
    clear hK K
    refine norm_ (a' := ?_) ?_ ?_
    rotate_left
    ·show Act.put _ (some 7) _ = _
     simp only [Act.put, Xa, Xb, Xc, i64_w, i32_w]
     rfl
    refine one_ (i := 3) (N := some 8) #[true,true,true,true,Zf,Zf] rfl rfl (by kernel_rfl) (by decide) (fun K hK => ?_)
    refine box_step ?hg (N := 8) ?hd (cs := #[.int .i64 0, .int .i64 0, .int .i64 0, .int .i64 0]) (t := 37) ?hr ?_; (case hd => rfl); (case hg => rfl); (case hr => first | (go_simp; done) | (go_simp; rfl))
    intro gb146 hg w9 hbox hb
    have n0_ := Za (Xk (g := gb144) (o := .cells #[.int .i64 a0_0, .int .i64 a0_1, .int .i64 a0_2, .int .i64 a0_3] 37 (0, 0)) (bb_7 BK144.out) hb)
    have n1_ := Za (Xk (g := gb145) (o := .cells #[.int .i64 0, .int .i64 0, .int .i64 0, .int .i64 0] 37 (0, 0)) (bb_7 BK145.out) hb)
    have n2_ := Za (below_step (hb_7 HB.out) hb)
    have n3_ := Za (hbox)
    have n4_ := Za ((by rw [hg]; exact (Xl (hb_7 HB.out)) : w.heap.size ≤ gb146))
    have n5_ := Za ((by rw [hg]; exact (Xl (hb_7 HB.out)) : w.heap.size ≤ gb146))
    have n6_ := Za ((by rw [hg]; exact Nat.ne_of_lt (blk_lt (g := gb144) (o := .cells #[.int .i64 a0_0, .int .i64 a0_1, .int .i64 a0_2, .int .i64 a0_3] 37 (0, 0)) (bb_7 BK144.out)) : gb144 ≠ gb146))
    have n7_ := Za ((by rw [hg]; exact Nat.ne_of_gt (blk_lt (g := gb144) (o := .cells #[.int .i64 a0_0, .int .i64 a0_1, .int .i64 a0_2, .int .i64 a0_3] 37 (0, 0)) (bb_7 BK144.out)) : gb146 ≠ gb144))
    have n8_ := Za ((by rw [hg]; exact Nat.ne_of_lt (blk_lt (g := gb145) (o := .cells #[.int .i64 0, .int .i64 0, .int .i64 0, .int .i64 0] 37 (0, 0)) (bb_7 BK145.out)) : gb145 ≠ gb146))
    have n9_ := Za ((by rw [hg]; exact Nat.ne_of_gt (blk_lt (g := gb145) (o := .cells #[.int .i64 0, .int .i64 0, .int .i64 0, .int .i64 0] 37 (0, 0)) (bb_7 BK145.out)) : gb146 ≠ gb145))
    clear BK144
    clear BK145
    clear HB
    have BK144 := n0_
    have BK145 := n1_
    have HB := n2_
    have BK146 := n3_
    have GW146 := n4_
    have GE146 := n5_
    have NB144_146 := n6_
    have NB146_144 := n7_
    have NB145_146 := n8_
    have NB146_145 := n9_
    clear n0_ n1_ n2_ n3_ n4_ n5_ n6_ n7_ n8_ n9_
    clear hb hbox hg
    refine hK.out _ _ ⟨(Xf BK144.out 0).trans rfl, (Xf BK144.out 1).trans rfl, (Xf BK144.out 2).trans rfl, (Xf BK144.out 3).trans rfl⟩ (fun hHeld => ?_)
    clear hK K
    refine norm_ (a' := ?_) ?_ ?_
    rotate_left
    ·show Act.put _ (some 8) _ = _
     simp only [Act.put, Xa, Xb, Xc, i64_w, i32_w]
     rfl
    exact norm_ (by simp only [putAll, Act.put, Xa, Xb, Xc]) (hCont (gb145, gb146) _ ⟨hHeld, (bb_7 BK144.out), (bb_7 BK145.out), (bb_7 BK146.out), GW145.out, GE145.out, NB144_145.out, NB145_144.out, NB146_145.out, NB145_146.out, GW146.out, GE146.out, NB144_146.out, NB146_144.out, (hb_7 HB.out)⟩)
   ·skip
    refine box_step ?hg (N := 8) ?hd (cs := #[.int .i64 0, .int .i64 0, .int .i64 0, .int .i64 0]) (t := 37) ?hr ?_; (case hd => rfl); (case hg => rfl); (case hr => first | (go_simp; done) | (go_simp; rfl))
    intro gb146 hg w8 hbox hb
    have n0_ := Za (Xk (g := gb144) (o := .cells #[.int .i64 a0_0, .int .i64 a0_1, .int .i64 a0_2, .int .i64 a0_3] 37 (0, 0)) (bb_7 BK144.out) hb)
    have n1_ := Za (below_step (hb_7 HB.out) hb)
    have n2_ := Za (hbox)
    have n3_ := Za ((by rw [hg]; exact (Xl (hb_7 HB.out)) : w.heap.size ≤ gb146))
    have n4_ := Za ((by rw [hg]; exact (Xl (hb_7 HB.out)) : w.heap.size ≤ gb146))
    have n5_ := Za ((by rw [hg]; exact Nat.ne_of_lt (blk_lt (g := gb144) (o := .cells #[.int .i64 a0_0, .int .i64 a0_1, .int .i64 a0_2, .int .i64 a0_3] 37 (0, 0)) (bb_7 BK144.out)) : gb144 ≠ gb146))
    have n6_ := Za ((by rw [hg]; exact Nat.ne_of_gt (blk_lt (g := gb144) (o := .cells #[.int .i64 a0_0, .int .i64 a0_1, .int .i64 a0_2, .int .i64 a0_3] 37 (0, 0)) (bb_7 BK144.out)) : gb146 ≠ gb144))
    clear BK144
    clear HB
    have BK144 := n0_
    have HB := n1_
    have BK146 := n2_
    have GW146 := n3_
    have GE146 := n4_
    have NB144_146 := n5_
    have NB146_144 := n6_
    clear n0_ n1_ n2_ n3_ n4_ n5_ n6_
    clear hb hbox hg
    refine hK.out _ _ ⟨(Xf BK144.out 0).trans rfl, (Xf BK144.out 1).trans rfl, (Xf BK144.out 2).trans rfl, (Xf BK144.out 3).trans rfl⟩ (fun hHeld => ?_)
    clear hK K
    refine norm_ (a' := ?_) ?_ ?_
    rotate_left
    ·show Act.put _ (some 8) _ = _
     simp only [Act.put, Xa, Xb, Xc, i64_w, i32_w]
     rfl
    refine one_ (i := 2) (N := some 7) #[true,true,true,true,Zf,Zf] rfl rfl (by kernel_rfl) (by decide) (fun K hK => ?_)
    refine box_step ?hg (N := 7) ?hd (cs := #[.int .i64 0, .int .i64 0, .int .i64 0, .int .i64 0]) (t := 37) ?hr ?_; (case hd => rfl); (case hg => rfl); (case hr => first | (go_simp; done) | (go_simp; rfl))
    intro gb145 hg w9 hbox hb
    have n0_ := Za (Xk (g := gb144) (o := .cells #[.int .i64 a0_0, .int .i64 a0_1, .int .i64 a0_2, .int .i64 a0_3] 37 (0, 0)) (bb_7 BK144.out) hb)
    have n1_ := Za (Xk (g := gb146) (o := .cells #[.int .i64 0, .int .i64 0, .int .i64 0, .int .i64 0] 37 (0, 0)) (bb_7 BK146.out) hb)
    have n2_ := Za (below_step (hb_7 HB.out) hb)
    have n3_ := Za (hbox)
    have n4_ := Za ((by rw [hg]; exact (Xl (hb_7 HB.out)) : w.heap.size ≤ gb145))
    have n5_ := Za ((by rw [hg]; exact (Xl (hb_7 HB.out)) : w.heap.size ≤ gb145))
    have n6_ := Za ((by rw [hg]; exact Nat.ne_of_lt (blk_lt (g := gb144) (o := .cells #[.int .i64 a0_0, .int .i64 a0_1, .int .i64 a0_2, .int .i64 a0_3] 37 (0, 0)) (bb_7 BK144.out)) : gb144 ≠ gb145))
    have n7_ := Za ((by rw [hg]; exact Nat.ne_of_gt (blk_lt (g := gb144) (o := .cells #[.int .i64 a0_0, .int .i64 a0_1, .int .i64 a0_2, .int .i64 a0_3] 37 (0, 0)) (bb_7 BK144.out)) : gb145 ≠ gb144))
    have n8_ := Za ((by rw [hg]; exact Nat.ne_of_lt (blk_lt (g := gb146) (o := .cells #[.int .i64 0, .int .i64 0, .int .i64 0, .int .i64 0] 37 (0, 0)) (bb_7 BK146.out)) : gb146 ≠ gb145))
    have n9_ := Za ((by rw [hg]; exact Nat.ne_of_gt (blk_lt (g := gb146) (o := .cells #[.int .i64 0, .int .i64 0, .int .i64 0, .int .i64 0] 37 (0, 0)) (bb_7 BK146.out)) : gb145 ≠ gb146))
    clear BK144
    clear BK146
    clear HB
    have BK144 := n0_
    have BK146 := n1_
    have HB := n2_
    have BK145 := n3_
    have GW145 := n4_
    have GE145 := n5_
    have NB144_145 := n6_
    have NB145_144 := n7_
    have NB146_145 := n8_
    have NB145_146 := n9_
    clear n0_ n1_ n2_ n3_ n4_ n5_ n6_ n7_ n8_ n9_
    clear hb hbox hg
    refine hK.out _ _ ⟨(Xf BK144.out 0).trans rfl, (Xf BK144.out 1).trans rfl, (Xf BK144.out 2).trans rfl, (Xf BK144.out 3).trans rfl⟩ (fun hHeld => ?_)
    clear hK K
    refine norm_ (a' := ?_) ?_ ?_
    rotate_left
    ·show Act.put _ (some 7) _ = _
     simp only [Act.put, Xa, Xb, Xc, i64_w, i32_w]
     rfl
    exact norm_ (by simp only [putAll, Act.put, Xa, Xb, Xc]) (hCont (gb145, gb146) _ ⟨hHeld, (bb_7 BK144.out), (bb_7 BK145.out), (bb_7 BK146.out), GW145.out, GE145.out, NB144_145.out, NB145_144.out, NB146_145.out, NB145_146.out, GW146.out, GE146.out, NB144_146.out, NB146_144.out, (hb_7 HB.out)⟩)
  rintro ⟨gb145, gb146⟩ w10 ⟨hS_, h0_, h1_, h2_, h3_, h4_, h5_, h6_, h7_, h8_, h9_, h10_, h11_, h12_, h13_⟩
  have n0_ : Aside0 (w10.heap[gb144]? = some (.cells #[.int .i64 a0_0, .int .i64 a0_1, .int .i64 a0_2, .int .i64 a0_3] 37 (0, 0))) := ⟨h0_⟩
  have n1_ : Aside0 (w10.heap[gb145]? = some (.cells #[.int .i64 0, .int .i64 0, .int .i64 0, .int .i64 0] 37 (0, 0))) := ⟨h1_⟩
  have n2_ : Aside0 (w10.heap[gb146]? = some (.cells #[.int .i64 0, .int .i64 0, .int .i64 0, .int .i64 0] 37 (0, 0))) := ⟨h2_⟩
  have n3_ : Aside0 (w.heap.size ≤ gb145) := ⟨h3_⟩
  have n4_ : Aside0 (w.heap.size ≤ gb145) := ⟨h4_⟩
  have n5_ : Aside0 (gb144 ≠ gb145) := ⟨h5_⟩
  have n6_ : Aside0 (gb145 ≠ gb144) := ⟨h6_⟩
  have n7_ : Aside0 (gb146 ≠ gb145) := ⟨h7_⟩
  have n8_ : Aside0 (gb145 ≠ gb146) := ⟨h8_⟩
  have n9_ : Aside0 (w.heap.size ≤ gb146) := ⟨h9_⟩
  have n10_ : Aside0 (w.heap.size ≤ gb146) := ⟨h10_⟩
  have n11_ : Aside0 (gb144 ≠ gb146) := ⟨h11_⟩
  have n12_ : Aside0 (gb146 ≠ gb144) := ⟨h12_⟩
  have n13_ : Aside0 (Below w.heap.size w w10) := ⟨h13_⟩
  clear BK144
  clear HB
  clear h0_ h1_ h2_ h3_ h4_ h5_ h6_ h7_ h8_ h9_ h10_ h11_ h12_ h13_
  have BK144 := n0_
  have BK145 := n1_
  have BK146 := n2_
  have GW145 := n3_
  have GE145 := n4_
  have NB144_145 := n5_
  have NB145_144 := n6_
  have NB146_145 := n7_
  have NB145_146 := n8_
  have GW146 := n9_
  have GE146 := n10_
  have NB144_146 := n11_
  have NB146_144 := n12_
  have HB := n13_
  clear n0_ n1_ n2_ n3_ n4_ n5_ n6_ n7_ n8_ n9_ n10_ n11_ n12_ n13_
  have hHeld : w10.cell? ⟨gb144, 0, none⟩ = some (.int .i64 a0_0) ∧ w10.cell? ⟨gb144, 1, none⟩ = some (.int .i64 a0_1) ∧ w10.cell? ⟨gb144, 2, none⟩ = some (.int .i64 a0_2) ∧ w10.cell? ⟨gb144, 3, none⟩ = some (.int .i64 a0_3) := hS_
  refine norm_ (a' := ?_) ?_ ?_
  rotate_left
  ·simp only [putAll, Act.put, Xa, Xb, Xc]
   rfl
  refine one_ (i := 4) (N := none) #[true,true,true,true,true,Zf] rfl rfl (by kernel_rfl) (by decide) (fun K hK => ?_)
  have hs11 : w10.cell? ⟨gb145, 0, none⟩ = some (.int .i64 0) := (Xf BK145.out 0).trans rfl
  have hfs11 := Xh BK145.out 0
  have hns11_0 := NB144_145.out
  have hns11_2 := NB146_145.out
  have hms11_0 := NB145_144.out
  have hms11_2 := NB145_146.out
  have hs12 : w10.cell? ⟨gb145, 1, none⟩ = some (.int .i64 0) := (Xf BK145.out 1).trans rfl
  have hfs12 := Xh BK145.out 1
  have hns12_0 := NB144_145.out
  have hns12_2 := NB146_145.out
  have hms12_0 := NB145_144.out
  have hms12_2 := NB145_146.out
  have hs13 : w10.cell? ⟨gb145, 2, none⟩ = some (.int .i64 0) := (Xf BK145.out 2).trans rfl
  have hfs13 := Xh BK145.out 2
  have hns13_0 := NB144_145.out
  have hns13_2 := NB146_145.out
  have hms13_0 := NB145_144.out
  have hms13_2 := NB145_146.out
  have hs14 : w10.cell? ⟨gb145, 3, none⟩ = some (.int .i64 0) := (Xf BK145.out 3).trans rfl
  have hfs14 := Xh BK145.out 3
  have hns14_0 := NB144_145.out
  have hns14_2 := NB146_145.out
  have hms14_0 := NB145_144.out
  have hms14_2 := NB145_146.out
  refine skip_ (w1 := ?_) (by rfl) rfl ?_ ?_
  rotate_left
  ·go_simp
   rfl
  refine hK.out _ _ ⟨((Xi (p := ⟨gb145, _, none⟩) NB144_145.out _).trans (((Xi (p := ⟨gb145, _, none⟩) NB144_145.out _).trans (((Xi (p := ⟨gb145, _, none⟩) NB144_145.out _).trans (((Xi (p := ⟨gb145, _, none⟩) NB144_145.out _).trans (hHeld.1)))))))), ((Xi (p := ⟨gb145, _, none⟩) NB144_145.out _).trans (((Xi (p := ⟨gb145, _, none⟩) NB144_145.out _).trans (((Xi (p := ⟨gb145, _, none⟩) NB144_145.out _).trans (((Xi (p := ⟨gb145, _, none⟩) NB144_145.out _).trans (hHeld.2.1)))))))), ((Xi (p := ⟨gb145, _, none⟩) NB144_145.out _).trans (((Xi (p := ⟨gb145, _, none⟩) NB144_145.out _).trans (((Xi (p := ⟨gb145, _, none⟩) NB144_145.out _).trans (((Xi (p := ⟨gb145, _, none⟩) NB144_145.out _).trans (hHeld.2.2.1)))))))), ((Xi (p := ⟨gb145, _, none⟩) NB144_145.out _).trans (((Xi (p := ⟨gb145, _, none⟩) NB144_145.out _).trans (((Xi (p := ⟨gb145, _, none⟩) NB144_145.out _).trans (((Xi (p := ⟨gb145, _, none⟩) NB144_145.out _).trans (hHeld.2.2.2))))))))⟩ (fun hHeld => ?_)
  clear hK K
  refine one_ (i := 5) (N := none) #[true,true,true,true,true,true] rfl rfl (by kernel_rfl) (by decide) (fun K hK => ?_)
  have hs15 : w10.cell? ⟨gb146, 0, none⟩ = some (.int .i64 0) := (Xf BK146.out 0).trans rfl
  have hfs15 := Xh BK146.out 0
  have hns15_0 := NB144_146.out
  have hns15_1 := NB145_146.out
  have hms15_0 := NB146_144.out
  have hms15_1 := NB146_145.out
  have hs16 : w10.cell? ⟨gb146, 1, none⟩ = some (.int .i64 0) := (Xf BK146.out 1).trans rfl
  have hfs16 := Xh BK146.out 1
  have hns16_0 := NB144_146.out
  have hns16_1 := NB145_146.out
  have hms16_0 := NB146_144.out
  have hms16_1 := NB146_145.out
  have hs17 : w10.cell? ⟨gb146, 2, none⟩ = some (.int .i64 0) := (Xf BK146.out 2).trans rfl
  have hfs17 := Xh BK146.out 2
  have hns17_0 := NB144_146.out
  have hns17_1 := NB145_146.out
  have hms17_0 := NB146_144.out
  have hms17_1 := NB146_145.out
  have hs18 : w10.cell? ⟨gb146, 3, none⟩ = some (.int .i64 0) := (Xf BK146.out 3).trans rfl
  have hfs18 := Xh BK146.out 3
  have hns18_0 := NB144_146.out
  have hns18_1 := NB145_146.out
  have hms18_0 := NB146_144.out
  have hms18_1 := NB146_145.out
  refine skip_ (w1 := ?_) (by rfl) rfl ?_ ?_
  rotate_left
  ·go_simp
   rfl
  refine hK.out _ _ ⟨((Xi (p := ⟨gb146, _, none⟩) NB144_146.out _).trans (((Xi (p := ⟨gb146, _, none⟩) NB144_146.out _).trans (((Xi (p := ⟨gb146, _, none⟩) NB144_146.out _).trans (((Xi (p := ⟨gb146, _, none⟩) NB144_146.out _).trans (hHeld.1)))))))), ((Xi (p := ⟨gb146, _, none⟩) NB144_146.out _).trans (((Xi (p := ⟨gb146, _, none⟩) NB144_146.out _).trans (((Xi (p := ⟨gb146, _, none⟩) NB144_146.out _).trans (((Xi (p := ⟨gb146, _, none⟩) NB144_146.out _).trans (hHeld.2.1)))))))), ((Xi (p := ⟨gb146, _, none⟩) NB144_146.out _).trans (((Xi (p := ⟨gb146, _, none⟩) NB144_146.out _).trans (((Xi (p := ⟨gb146, _, none⟩) NB144_146.out _).trans (((Xi (p := ⟨gb146, _, none⟩) NB144_146.out _).trans (hHeld.2.2.1)))))))), ((Xi (p := ⟨gb146, _, none⟩) NB144_146.out _).trans (((Xi (p := ⟨gb146, _, none⟩) NB144_146.out _).trans (((Xi (p := ⟨gb146, _, none⟩) NB144_146.out _).trans (((Xi (p := ⟨gb146, _, none⟩) NB144_146.out _).trans (hHeld.2.2.2))))))))⟩ (fun hHeld => ?_)
  clear hK K
  refine done_ (by kernel_rfl) ?_
  have hnb19 := NB144_145.out
  have hnc19 := NB145_144.out
  have hnb20 := NB144_146.out
  have hnc20 := NB146_144.out
  have hcz21_0 : w10.cell? ⟨gb144, 0, none⟩ = some (.int .i64 a0_0) := (Xf BK144.out 0).trans rfl
  have hcz21_1 : w10.cell? ⟨gb144, 1, none⟩ = some (.int .i64 a0_1) := (Xf BK144.out 1).trans rfl
  have hcz21_2 : w10.cell? ⟨gb144, 2, none⟩ = some (.int .i64 a0_2) := (Xf BK144.out 2).trans rfl
  have hcz21_3 : w10.cell? ⟨gb144, 3, none⟩ = some (.int .i64 a0_3) := (Xf BK144.out 3).trans rfl
  have hfz21_0 := Xh BK144.out 0
  have hfz21_1 := Xh BK144.out 1
  have hfz21_2 := Xh BK144.out 2
  have hfz21_3 := Xh BK144.out 3
  try go_wp2_with (first | ((with_reducible refine gate_callee (f := 86) rfl ?_); refine goesL_ (some 15) rfl rfl Try.func86 (by kernel_rfl) rfl #[.agg #[.int .i64 a0_0, .int .i64 a0_1, .int .i64 a0_2, .int .i64 a0_3]] rfl (by (try simp only [List.map_toArray, List.map_cons, List.map_nil]); first | done | rfl | (simp only [List.length_drop, List.length_take]; rfl)) ?_; (with_reducible refine (box_Empty.calls a0_0 a0_1 a0_2 a0_3 true _ A4.out).mono ?_); rintro e w22 ⟨rfl, hb⟩; refine ⟨_, rfl, ?_⟩; have n0_ := Za (Xk (g := gb144) (o := .cells #[.int .i64 a0_0, .int .i64 a0_1, .int .i64 a0_2, .int .i64 a0_3] 37 (0, 0)) (by (with_reducible repeat (first | refine Xd ?_ _ | refine Xg ?_ | refine Xe ?_ _)); refine Xj ?_ NB144_146.out _; (with_reducible repeat (first | refine Xd ?_ _ | refine Xg ?_ | refine Xe ?_ _)); refine Xj ?_ NB144_146.out _; (with_reducible repeat (first | refine Xd ?_ _ | refine Xg ?_ | refine Xe ?_ _)); refine Xj ?_ NB144_146.out _; (with_reducible repeat (first | refine Xd ?_ _ | refine Xg ?_ | refine Xe ?_ _)); refine Xj ?_ NB144_146.out _; (with_reducible repeat (first | refine Xd ?_ _ | refine Xg ?_ | refine Xe ?_ _)); refine Xj ?_ NB144_145.out _; (with_reducible repeat (first | refine Xd ?_ _ | refine Xg ?_ | refine Xe ?_ _)); refine Xj ?_ NB144_145.out _; (with_reducible repeat (first | refine Xd ?_ _ | refine Xg ?_ | refine Xe ?_ _)); refine Xj ?_ NB144_145.out _; (with_reducible repeat (first | refine Xd ?_ _ | refine Xg ?_ | refine Xe ?_ _)); refine Xj ?_ NB144_145.out _; (with_reducible repeat (first | refine Xd ?_ _ | refine Xg ?_ | refine Xe ?_ _)); exact BK144.out) hb); have n1_ := Za (Xk (g := gb145) (o := .cells #[.int .i64 a0_0, .int .i64 a0_1, .int .i64 a0_2, .int .i64 a0_3] 37 (0, 0)) (by (with_reducible repeat (first | refine Xd ?_ _ | refine Xg ?_ | refine Xe ?_ _)); refine Xj ?_ NB145_146.out _; (with_reducible repeat (first | refine Xd ?_ _ | refine Xg ?_ | refine Xe ?_ _)); refine Xj ?_ NB145_146.out _; (with_reducible repeat (first | refine Xd ?_ _ | refine Xg ?_ | refine Xe ?_ _)); refine Xj ?_ NB145_146.out _; (with_reducible repeat (first | refine Xd ?_ _ | refine Xg ?_ | refine Xe ?_ _)); refine Xj ?_ NB145_146.out _; (with_reducible repeat (first | refine Xd ?_ _ | refine Xg ?_ | refine Xe ?_ _)); refine blk_put (cs := #[.int .i64 a0_0, .int .i64 a0_1, .int .i64 a0_2, .int .i64 0]) ?_ 3 _ rfl; (with_reducible repeat (first | refine Xd ?_ _ | refine Xg ?_ | refine Xe ?_ _)); refine blk_put (cs := #[.int .i64 a0_0, .int .i64 a0_1, .int .i64 0, .int .i64 0]) ?_ 2 _ rfl; (with_reducible repeat (first | refine Xd ?_ _ | refine Xg ?_ | refine Xe ?_ _)); refine blk_put (cs := #[.int .i64 a0_0, .int .i64 0, .int .i64 0, .int .i64 0]) ?_ 1 _ rfl; (with_reducible repeat (first | refine Xd ?_ _ | refine Xg ?_ | refine Xe ?_ _)); refine blk_put (cs := #[.int .i64 0, .int .i64 0, .int .i64 0, .int .i64 0]) ?_ 0 _ rfl; (with_reducible repeat (first | refine Xd ?_ _ | refine Xg ?_ | refine Xe ?_ _)); exact BK145.out) hb); have n2_ := Za (Xk (g := gb146) (o := .cells #[.int .i64 a0_0, .int .i64 a0_1, .int .i64 a0_2, .int .i64 a0_3] 37 (0, 0)) (by (with_reducible repeat (first | refine Xd ?_ _ | refine Xg ?_ | refine Xe ?_ _)); refine blk_put (cs := #[.int .i64 a0_0, .int .i64 a0_1, .int .i64 a0_2, .int .i64 0]) ?_ 3 _ rfl; (with_reducible repeat (first | refine Xd ?_ _ | refine Xg ?_ | refine Xe ?_ _)); refine blk_put (cs := #[.int .i64 a0_0, .int .i64 a0_1, .int .i64 0, .int .i64 0]) ?_ 2 _ rfl; (with_reducible repeat (first | refine Xd ?_ _ | refine Xg ?_ | refine Xe ?_ _)); refine blk_put (cs := #[.int .i64 a0_0, .int .i64 0, .int .i64 0, .int .i64 0]) ?_ 1 _ rfl; (with_reducible repeat (first | refine Xd ?_ _ | refine Xg ?_ | refine Xe ?_ _)); refine blk_put (cs := #[.int .i64 0, .int .i64 0, .int .i64 0, .int .i64 0]) ?_ 0 _ rfl; (with_reducible repeat (first | refine Xd ?_ _ | refine Xg ?_ | refine Xe ?_ _)); refine Xj ?_ NB146_145.out _; (with_reducible repeat (first | refine Xd ?_ _ | refine Xg ?_ | refine Xe ?_ _)); refine Xj ?_ NB146_145.out _; (with_reducible repeat (first | refine Xd ?_ _ | refine Xg ?_ | refine Xe ?_ _)); refine Xj ?_ NB146_145.out _; (with_reducible repeat (first | refine Xd ?_ _ | refine Xg ?_ | refine Xe ?_ _)); refine Xj ?_ NB146_145.out _; (with_reducible repeat (first | refine Xd ?_ _ | refine Xg ?_ | refine Xe ?_ _)); exact BK146.out) hb); have n3_ := Za (below_step (hb_7 HB.out) hb); clear BK144; clear BK145; clear BK146; clear HB; have BK144 := n0_; have BK145 := n1_; have BK146 := n2_; have HB := n3_; clear n0_ n1_ n2_ n3_; (try clear hb); (try clear hb2); (try clear hk); (try clear hi)))
  go_ret
  exact ⟨_, by first | rfl | (simp [errW_none, errW_some] <;> rfl) | (simp [*, errW_none, errW_some] <;> rfl), by first | exact Kd.R_nil _ _ _ _ _ | exact Kd.N_nil _ _ _ _ _ | exact Kd.V_nil _ _ _ _ _ | exact Kd.Q_nil _ _ _ _ _ | exact Kd.S_nil _ _ _ _ _, by repeat (first | (with_reducible first | exact HB.out | apply below_alloc | apply pw_below_drewN | apply below_drew1 | refine below_set ?_ GE144.out | refine below_set ?_ GE145.out | refine below_set ?_ GE146.out) | exact HB.out)⟩
 ·replace c5 := Bool.eq_false_iff.mpr c5
  subst c5
  have H1 : (if a1 = true then (if a0_0 < a2 then (box_Split.j0 k a1 a2 (decide (a2 < a0_2)) a0_0 a0_1 a0_2 a0_3 a0_0 a0_1 a0_2 a0_3 a0_0 a0_1 a0_2 a0_3) else (box_Split.j0 k a1 a2 Zf a0_0 a0_1 a0_2 a0_3 a0_0 a0_1 a0_2 a0_3 a0_0 a0_1 a0_2 a0_3)) else (box_Split.j0 k a1 a2 Zf a0_0 a0_1 a0_2 a0_3 a0_0 a0_1 a0_2 a0_3 a0_0 a0_1 a0_2 a0_3)) = some r := by rw [if_neg (show ¬ (Zf = true) by decide)] at H; exact H
  clear H
  have H := H1
  clear H1
  have HC23 := Za H
  clear H
  go_enter Try.func87, Try.ntmps87
  try go_wp2_with (first | ((with_reducible refine gate_dst (N := 3) rfl ?_); refine box_event ?hg (N := 3) ?hd (cs := #[.int .i64 a0_0, .int .i64 a0_1, .int .i64 a0_2, .int .i64 a0_3]) (t := 37) ?hr ?_; (case hd => rfl); (case hg => rfl); (case hr => first | (go_simp; done) | (go_simp; rfl)); intro gb144 hg w24 hbox hb; have n0_ := Za (below_step (hb_7 HB.out) hb); have n1_ := Za (hbox); have n2_ := Za ((by rw [hg]; exact (Xl (hb_7 HB.out)) : w.heap.size ≤ gb144)); have n3_ := Za ((by rw [hg]; exact (Xl (hb_7 HB.out)) : w.heap.size ≤ gb144)); clear HB; have HB := n0_; have BK144 := n1_; have GW144 := n2_; have GE144 := n3_; clear n0_ n1_ n2_ n3_; clear hb hbox hg))
  have n0_ := Za (Xg BK144.out)
  have n1_ := Za (below_drew1 HB.out)
  clear BK144
  clear HB
  have BK144 := n0_
  have HB := n1_
  clear n0_ n1_
  refine start_ (n := 6) (S := fun w' => w'.cell? ⟨gb144, 0, none⟩ = some (.int .i64 a0_0) ∧ w'.cell? ⟨gb144, 1, none⟩ = some (.int .i64 a0_1) ∧ w'.cell? ⟨gb144, 2, none⟩ = some (.int .i64 a0_2) ∧ w'.cell? ⟨gb144, 3, none⟩ = some (.int .i64 a0_3)) (ds := []) #[Zf,Zf,Zf,Zf,Zf,Zf] (by kernel_rfl) rfl rfl ⟨(Xf BK144.out 0).trans rfl, (Xf BK144.out 1).trans rfl, (Xf BK144.out 2).trans rfl, (Xf BK144.out 3).trans rfl⟩ (fun hHeld => ?_)
  generalize w24.drew = w25 at BK144 HB hHeld ⊢
  refine take_ (i := 0) (N := some 9) (v := ?_) (a' := ?_) #[true,Zf,Zf,Zf,Zf,Zf] rfl rfl (by kernel_rfl) (fun _ _ _ h => h) (Or.inl ⟨by rfl, ?_⟩) hHeld ?_ ?_
  rotate_left
  ·rintro w' ⟨s0, s1, s2, s3⟩
   go_simp
   with_reducible rfl
  rotate_left
  ·simp only [Act.put, Xa, Xb, Xc, i64_w, i32_w]
   rfl
  refine take_ (i := 1) (N := some 10) (v := ?_) (a' := ?_) #[true,true,Zf,Zf,Zf,Zf] rfl rfl (by kernel_rfl) (fun _ _ _ h => h) (Or.inl ⟨by rfl, ?_⟩) hHeld ?_ ?_
  rotate_left
  ·rintro w' ⟨s0, s1, s2, s3⟩
   go_simp
   with_reducible rfl
  rotate_left
  ·simp only [Act.put, Xa, Xb, Xc, i64_w, i32_w]
   rfl
  refine join_ (σ := Nat × Nat) 2 #[true,true,true,true,Zf,Zf] (fun s_ => [(7, .pointer (some ⟨s_.1, 0, none⟩)), (8, .pointer (some ⟨s_.2, 0, none⟩))]) (fun s_ w' => (w'.cell? ⟨gb144, 0, none⟩ = some (.int .i64 a0_0) ∧ w'.cell? ⟨gb144, 1, none⟩ = some (.int .i64 a0_1) ∧ w'.cell? ⟨gb144, 2, none⟩ = some (.int .i64 a0_2) ∧ w'.cell? ⟨gb144, 3, none⟩ = some (.int .i64 a0_3)) ∧ (w'.heap[gb144]? = some (.cells #[.int .i64 a0_0, .int .i64 a0_1, .int .i64 a0_2, .int .i64 a0_3] 37 (0, 0))) ∧ (w'.heap[s_.1]? = some (.cells #[.int .i64 0, .int .i64 0, .int .i64 0, .int .i64 0] 37 (0, 0))) ∧ (w'.heap[s_.2]? = some (.cells #[.int .i64 0, .int .i64 0, .int .i64 0, .int .i64 0] 37 (0, 0))) ∧ (w.heap.size ≤ s_.1) ∧ (w.heap.size ≤ s_.1) ∧ (gb144 ≠ s_.1) ∧ (s_.1 ≠ gb144) ∧ (s_.2 ≠ s_.1) ∧ (s_.1 ≠ s_.2) ∧ (w.heap.size ≤ s_.2) ∧ (w.heap.size ≤ s_.2) ∧ (gb144 ≠ s_.2) ∧ (s_.2 ≠ gb144) ∧ (Below w.heap.size w w')) ?_ ?_
  rotate_left
  ·intro hCont
   refine two_ (i := 2) (j := 3) (Ni := some 7) (Nj := some 8) #[true,true,true,Zf,Zf,Zf] #[true,true,Zf,true,Zf,Zf] rfl rfl rfl rfl (by kernel_rfl) (by decide) (by decide) (fun K hK => ?_) (fun K hK => ?_)
   ·skip
    refine box_step ?hg (N := 7) ?hd (cs := #[.int .i64 0, .int .i64 0, .int .i64 0, .int .i64 0]) (t := 37) ?hr ?_; (case hd => rfl); (case hg => rfl); (case hr => first | (go_simp; done) | (go_simp; rfl))
    intro gb145 hg w26 hbox hb
    have n0_ := Za (Xk (g := gb144) (o := .cells #[.int .i64 a0_0, .int .i64 a0_1, .int .i64 a0_2, .int .i64 a0_3] 37 (0, 0)) (bb_7 BK144.out) hb)
    have n1_ := Za (below_step (hb_7 HB.out) hb)
    have n2_ := Za (hbox)
    have n3_ := Za ((by rw [hg]; exact (Xl (hb_7 HB.out)) : w.heap.size ≤ gb145))
    have n4_ := Za ((by rw [hg]; exact (Xl (hb_7 HB.out)) : w.heap.size ≤ gb145))
    have n5_ := Za ((by rw [hg]; exact Nat.ne_of_lt (blk_lt (g := gb144) (o := .cells #[.int .i64 a0_0, .int .i64 a0_1, .int .i64 a0_2, .int .i64 a0_3] 37 (0, 0)) (bb_7 BK144.out)) : gb144 ≠ gb145))
    have n6_ := Za ((by rw [hg]; exact Nat.ne_of_gt (blk_lt (g := gb144) (o := .cells #[.int .i64 a0_0, .int .i64 a0_1, .int .i64 a0_2, .int .i64 a0_3] 37 (0, 0)) (bb_7 BK144.out)) : gb145 ≠ gb144))
    clear BK144
    clear HB
    have BK144 := n0_
    have HB := n1_
    have BK145 := n2_
    have GW145 := n3_
    have GE145 := n4_
    have NB144_145 := n5_
    have NB145_144 := n6_
    clear n0_ n1_ n2_ n3_ n4_ n5_ n6_
    clear hb hbox hg
    refine hK.out _ _ ⟨(Xf BK144.out 0).trans rfl, (Xf BK144.out 1).trans rfl, (Xf BK144.out 2).trans rfl, (Xf BK144.out 3).trans rfl⟩ (fun hHeld => ?_)
    clear hK K
    refine norm_ (a' := ?_) ?_ ?_
    rotate_left
    ·show Act.put _ (some 7) _ = _
     simp only [Act.put, Xa, Xb, Xc, i64_w, i32_w]
     rfl
    refine one_ (i := 3) (N := some 8) #[true,true,true,true,Zf,Zf] rfl rfl (by kernel_rfl) (by decide) (fun K hK => ?_)
    refine box_step ?hg (N := 8) ?hd (cs := #[.int .i64 0, .int .i64 0, .int .i64 0, .int .i64 0]) (t := 37) ?hr ?_; (case hd => rfl); (case hg => rfl); (case hr => first | (go_simp; done) | (go_simp; rfl))
    intro gb146 hg w27 hbox hb
    have n0_ := Za (Xk (g := gb144) (o := .cells #[.int .i64 a0_0, .int .i64 a0_1, .int .i64 a0_2, .int .i64 a0_3] 37 (0, 0)) (bb_7 BK144.out) hb)
    have n1_ := Za (Xk (g := gb145) (o := .cells #[.int .i64 0, .int .i64 0, .int .i64 0, .int .i64 0] 37 (0, 0)) (bb_7 BK145.out) hb)
    have n2_ := Za (below_step (hb_7 HB.out) hb)
    have n3_ := Za (hbox)
    have n4_ := Za ((by rw [hg]; exact (Xl (hb_7 HB.out)) : w.heap.size ≤ gb146))
    have n5_ := Za ((by rw [hg]; exact (Xl (hb_7 HB.out)) : w.heap.size ≤ gb146))
    have n6_ := Za ((by rw [hg]; exact Nat.ne_of_lt (blk_lt (g := gb144) (o := .cells #[.int .i64 a0_0, .int .i64 a0_1, .int .i64 a0_2, .int .i64 a0_3] 37 (0, 0)) (bb_7 BK144.out)) : gb144 ≠ gb146))
    have n7_ := Za ((by rw [hg]; exact Nat.ne_of_gt (blk_lt (g := gb144) (o := .cells #[.int .i64 a0_0, .int .i64 a0_1, .int .i64 a0_2, .int .i64 a0_3] 37 (0, 0)) (bb_7 BK144.out)) : gb146 ≠ gb144))
    have n8_ := Za ((by rw [hg]; exact Nat.ne_of_lt (blk_lt (g := gb145) (o := .cells #[.int .i64 0, .int .i64 0, .int .i64 0, .int .i64 0] 37 (0, 0)) (bb_7 BK145.out)) : gb145 ≠ gb146))
    have n9_ := Za ((by rw [hg]; exact Nat.ne_of_gt (blk_lt (g := gb145) (o := .cells #[.int .i64 0, .int .i64 0, .int .i64 0, .int .i64 0] 37 (0, 0)) (bb_7 BK145.out)) : gb146 ≠ gb145))
    clear BK144
    clear BK145
    clear HB
    have BK144 := n0_
    have BK145 := n1_
    have HB := n2_
    have BK146 := n3_
    have GW146 := n4_
    have GE146 := n5_
    have NB144_146 := n6_
    have NB146_144 := n7_
    have NB145_146 := n8_
    have NB146_145 := n9_
    clear n0_ n1_ n2_ n3_ n4_ n5_ n6_ n7_ n8_ n9_
    clear hb hbox hg
    refine hK.out _ _ ⟨(Xf BK144.out 0).trans rfl, (Xf BK144.out 1).trans rfl, (Xf BK144.out 2).trans rfl, (Xf BK144.out 3).trans rfl⟩ (fun hHeld => ?_)
    clear hK K
    refine norm_ (a' := ?_) ?_ ?_
    rotate_left
    ·show Act.put _ (some 8) _ = _
     simp only [Act.put, Xa, Xb, Xc, i64_w, i32_w]
     rfl
    exact norm_ (by simp only [putAll, Act.put, Xa, Xb, Xc]) (hCont (gb145, gb146) _ ⟨hHeld, (bb_7 BK144.out), (bb_7 BK145.out), (bb_7 BK146.out), GW145.out, GE145.out, NB144_145.out, NB145_144.out, NB146_145.out, NB145_146.out, GW146.out, GE146.out, NB144_146.out, NB146_144.out, (hb_7 HB.out)⟩)
   ·skip
    refine box_step ?hg (N := 8) ?hd (cs := #[.int .i64 0, .int .i64 0, .int .i64 0, .int .i64 0]) (t := 37) ?hr ?_; (case hd => rfl); (case hg => rfl); (case hr => first | (go_simp; done) | (go_simp; rfl))
    intro gb146 hg w26 hbox hb
    have n0_ := Za (Xk (g := gb144) (o := .cells #[.int .i64 a0_0, .int .i64 a0_1, .int .i64 a0_2, .int .i64 a0_3] 37 (0, 0)) (bb_7 BK144.out) hb)
    have n1_ := Za (below_step (hb_7 HB.out) hb)
    have n2_ := Za (hbox)
    have n3_ := Za ((by rw [hg]; exact (Xl (hb_7 HB.out)) : w.heap.size ≤ gb146))
    have n4_ := Za ((by rw [hg]; exact (Xl (hb_7 HB.out)) : w.heap.size ≤ gb146))
    have n5_ := Za ((by rw [hg]; exact Nat.ne_of_lt (blk_lt (g := gb144) (o := .cells #[.int .i64 a0_0, .int .i64 a0_1, .int .i64 a0_2, .int .i64 a0_3] 37 (0, 0)) (bb_7 BK144.out)) : gb144 ≠ gb146))
    have n6_ := Za ((by rw [hg]; exact Nat.ne_of_gt (blk_lt (g := gb144) (o := .cells #[.int .i64 a0_0, .int .i64 a0_1, .int .i64 a0_2, .int .i64 a0_3] 37 (0, 0)) (bb_7 BK144.out)) : gb146 ≠ gb144))
    clear BK144
    clear HB
    have BK144 := n0_
    have HB := n1_
    have BK146 := n2_
    have GW146 := n3_
    have GE146 := n4_
    have NB144_146 := n5_
    have NB146_144 := n6_
    clear n0_ n1_ n2_ n3_ n4_ n5_ n6_
    clear hb hbox hg
    refine hK.out _ _ ⟨(Xf BK144.out 0).trans rfl, (Xf BK144.out 1).trans rfl, (Xf BK144.out 2).trans rfl, (Xf BK144.out 3).trans rfl⟩ (fun hHeld => ?_)
    clear hK K
    refine norm_ (a' := ?_) ?_ ?_
    rotate_left
    ·show Act.put _ (some 8) _ = _
     simp only [Act.put, Xa, Xb, Xc, i64_w, i32_w]
     rfl
    refine one_ (i := 2) (N := some 7) #[true,true,true,true,Zf,Zf] rfl rfl (by kernel_rfl) (by decide) (fun K hK => ?_)
    refine box_step ?hg (N := 7) ?hd (cs := #[.int .i64 0, .int .i64 0, .int .i64 0, .int .i64 0]) (t := 37) ?hr ?_; (case hd => rfl); (case hg => rfl); (case hr => first | (go_simp; done) | (go_simp; rfl))
    intro gb145 hg w27 hbox hb
    have n0_ := Za (Xk (g := gb144) (o := .cells #[.int .i64 a0_0, .int .i64 a0_1, .int .i64 a0_2, .int .i64 a0_3] 37 (0, 0)) (bb_7 BK144.out) hb)
    have n1_ := Za (Xk (g := gb146) (o := .cells #[.int .i64 0, .int .i64 0, .int .i64 0, .int .i64 0] 37 (0, 0)) (bb_7 BK146.out) hb)
    have n2_ := Za (below_step (hb_7 HB.out) hb)
    have n3_ := Za (hbox)
    have n4_ := Za ((by rw [hg]; exact (Xl (hb_7 HB.out)) : w.heap.size ≤ gb145))
    have n5_ := Za ((by rw [hg]; exact (Xl (hb_7 HB.out)) : w.heap.size ≤ gb145))
    have n6_ := Za ((by rw [hg]; exact Nat.ne_of_lt (blk_lt (g := gb144) (o := .cells #[.int .i64 a0_0, .int .i64 a0_1, .int .i64 a0_2, .int .i64 a0_3] 37 (0, 0)) (bb_7 BK144.out)) : gb144 ≠ gb145))
    have n7_ := Za ((by rw [hg]; exact Nat.ne_of_gt (blk_lt (g := gb144) (o := .cells #[.int .i64 a0_0, .int .i64 a0_1, .int .i64 a0_2, .int .i64 a0_3] 37 (0, 0)) (bb_7 BK144.out)) : gb145 ≠ gb144))
    have n8_ := Za ((by rw [hg]; exact Nat.ne_of_lt (blk_lt (g := gb146) (o := .cells #[.int .i64 0, .int .i64 0, .int .i64 0, .int .i64 0] 37 (0, 0)) (bb_7 BK146.out)) : gb146 ≠ gb145))
    have n9_ := Za ((by rw [hg]; exact Nat.ne_of_gt (blk_lt (g := gb146) (o := .cells #[.int .i64 0, .int .i64 0, .int .i64 0, .int .i64 0] 37 (0, 0)) (bb_7 BK146.out)) : gb145 ≠ gb146))
    clear BK144
    clear BK146
    clear HB
    have BK144 := n0_
    have BK146 := n1_
    have HB := n2_
    have BK145 := n3_
    have GW145 := n4_
    have GE145 := n5_
    have NB144_145 := n6_
    have NB145_144 := n7_
    have NB146_145 := n8_
    have NB145_146 := n9_
    clear n0_ n1_ n2_ n3_ n4_ n5_ n6_ n7_ n8_ n9_
    clear hb hbox hg
    refine hK.out _ _ ⟨(Xf BK144.out 0).trans rfl, (Xf BK144.out 1).trans rfl, (Xf BK144.out 2).trans rfl, (Xf BK144.out 3).trans rfl⟩ (fun hHeld => ?_)
    clear hK K
    refine norm_ (a' := ?_) ?_ ?_
    rotate_left
    ·show Act.put _ (some 7) _ = _
     simp only [Act.put, Xa, Xb, Xc, i64_w, i32_w]
     rfl
    exact norm_ (by simp only [putAll, Act.put, Xa, Xb, Xc]) (hCont (gb145, gb146) _ ⟨hHeld, (bb_7 BK144.out), (bb_7 BK145.out), (bb_7 BK146.out), GW145.out, GE145.out, NB144_145.out, NB145_144.out, NB146_145.out, NB145_146.out, GW146.out, GE146.out, NB144_146.out, NB146_144.out, (hb_7 HB.out)⟩)
  rintro ⟨gb145, gb146⟩ w28 ⟨hS_, h0_, h1_, h2_, h3_, h4_, h5_, h6_, h7_, h8_, h9_, h10_, h11_, h12_, h13_⟩
  have n0_ : Aside0 (w28.heap[gb144]? = some (.cells #[.int .i64 a0_0, .int .i64 a0_1, .int .i64 a0_2, .int .i64 a0_3] 37 (0, 0))) := ⟨h0_⟩
  have n1_ : Aside0 (w28.heap[gb145]? = some (.cells #[.int .i64 0, .int .i64 0, .int .i64 0, .int .i64 0] 37 (0, 0))) := ⟨h1_⟩
  have n2_ : Aside0 (w28.heap[gb146]? = some (.cells #[.int .i64 0, .int .i64 0, .int .i64 0, .int .i64 0] 37 (0, 0))) := ⟨h2_⟩
  have n3_ : Aside0 (w.heap.size ≤ gb145) := ⟨h3_⟩
  have n4_ : Aside0 (w.heap.size ≤ gb145) := ⟨h4_⟩
  have n5_ : Aside0 (gb144 ≠ gb145) := ⟨h5_⟩
  have n6_ : Aside0 (gb145 ≠ gb144) := ⟨h6_⟩
  have n7_ : Aside0 (gb146 ≠ gb145) := ⟨h7_⟩
  have n8_ : Aside0 (gb145 ≠ gb146) := ⟨h8_⟩
  have n9_ : Aside0 (w.heap.size ≤ gb146) := ⟨h9_⟩
  have n10_ : Aside0 (w.heap.size ≤ gb146) := ⟨h10_⟩
  have n11_ : Aside0 (gb144 ≠ gb146) := ⟨h11_⟩
  have n12_ : Aside0 (gb146 ≠ gb144) := ⟨h12_⟩
  have n13_ : Aside0 (Below w.heap.size w w28) := ⟨h13_⟩
  clear BK144
  clear HB
  clear h0_ h1_ h2_ h3_ h4_ h5_ h6_ h7_ h8_ h9_ h10_ h11_ h12_ h13_
  have BK144 := n0_
  have BK145 := n1_
  have BK146 := n2_
  have GW145 := n3_
  have GE145 := n4_
  have NB144_145 := n5_
  have NB145_144 := n6_
  have NB146_145 := n7_
  have NB145_146 := n8_
  have GW146 := n9_
  have GE146 := n10_
  have NB144_146 := n11_
  have NB146_144 := n12_
  have HB := n13_
  clear n0_ n1_ n2_ n3_ n4_ n5_ n6_ n7_ n8_ n9_ n10_ n11_ n12_ n13_
  have hHeld : w28.cell? ⟨gb144, 0, none⟩ = some (.int .i64 a0_0) ∧ w28.cell? ⟨gb144, 1, none⟩ = some (.int .i64 a0_1) ∧ w28.cell? ⟨gb144, 2, none⟩ = some (.int .i64 a0_2) ∧ w28.cell? ⟨gb144, 3, none⟩ = some (.int .i64 a0_3) := hS_
  refine norm_ (a' := ?_) ?_ ?_
  rotate_left
  ·simp only [putAll, Act.put, Xa, Xb, Xc]
   rfl
  refine one_ (i := 4) (N := none) #[true,true,true,true,true,Zf] rfl rfl (by kernel_rfl) (by decide) (fun K hK => ?_)
  have hs29 : w28.cell? ⟨gb145, 0, none⟩ = some (.int .i64 0) := (Xf BK145.out 0).trans rfl
  have hfs29 := Xh BK145.out 0
  have hns29_0 := NB144_145.out
  have hns29_2 := NB146_145.out
  have hms29_0 := NB145_144.out
  have hms29_2 := NB145_146.out
  have hs30 : w28.cell? ⟨gb145, 1, none⟩ = some (.int .i64 0) := (Xf BK145.out 1).trans rfl
  have hfs30 := Xh BK145.out 1
  have hns30_0 := NB144_145.out
  have hns30_2 := NB146_145.out
  have hms30_0 := NB145_144.out
  have hms30_2 := NB145_146.out
  have hs31 : w28.cell? ⟨gb145, 2, none⟩ = some (.int .i64 0) := (Xf BK145.out 2).trans rfl
  have hfs31 := Xh BK145.out 2
  have hns31_0 := NB144_145.out
  have hns31_2 := NB146_145.out
  have hms31_0 := NB145_144.out
  have hms31_2 := NB145_146.out
  have hs32 : w28.cell? ⟨gb145, 3, none⟩ = some (.int .i64 0) := (Xf BK145.out 3).trans rfl
  have hfs32 := Xh BK145.out 3
  have hns32_0 := NB144_145.out
  have hns32_2 := NB146_145.out
  have hms32_0 := NB145_144.out
  have hms32_2 := NB145_146.out
  refine skip_ (w1 := ?_) (by rfl) rfl ?_ ?_
  rotate_left
  ·go_simp
   rfl
  refine hK.out _ _ ⟨((Xi (p := ⟨gb145, _, none⟩) NB144_145.out _).trans (((Xi (p := ⟨gb145, _, none⟩) NB144_145.out _).trans (((Xi (p := ⟨gb145, _, none⟩) NB144_145.out _).trans (((Xi (p := ⟨gb145, _, none⟩) NB144_145.out _).trans (hHeld.1)))))))), ((Xi (p := ⟨gb145, _, none⟩) NB144_145.out _).trans (((Xi (p := ⟨gb145, _, none⟩) NB144_145.out _).trans (((Xi (p := ⟨gb145, _, none⟩) NB144_145.out _).trans (((Xi (p := ⟨gb145, _, none⟩) NB144_145.out _).trans (hHeld.2.1)))))))), ((Xi (p := ⟨gb145, _, none⟩) NB144_145.out _).trans (((Xi (p := ⟨gb145, _, none⟩) NB144_145.out _).trans (((Xi (p := ⟨gb145, _, none⟩) NB144_145.out _).trans (((Xi (p := ⟨gb145, _, none⟩) NB144_145.out _).trans (hHeld.2.2.1)))))))), ((Xi (p := ⟨gb145, _, none⟩) NB144_145.out _).trans (((Xi (p := ⟨gb145, _, none⟩) NB144_145.out _).trans (((Xi (p := ⟨gb145, _, none⟩) NB144_145.out _).trans (((Xi (p := ⟨gb145, _, none⟩) NB144_145.out _).trans (hHeld.2.2.2))))))))⟩ (fun hHeld => ?_)
  clear hK K
  refine one_ (i := 5) (N := none) #[true,true,true,true,true,true] rfl rfl (by kernel_rfl) (by decide) (fun K hK => ?_)
  have hs33 : w28.cell? ⟨gb146, 0, none⟩ = some (.int .i64 0) := (Xf BK146.out 0).trans rfl
  have hfs33 := Xh BK146.out 0
  have hns33_0 := NB144_146.out
  have hns33_1 := NB145_146.out
  have hms33_0 := NB146_144.out
  have hms33_1 := NB146_145.out
  have hs34 : w28.cell? ⟨gb146, 1, none⟩ = some (.int .i64 0) := (Xf BK146.out 1).trans rfl
  have hfs34 := Xh BK146.out 1
  have hns34_0 := NB144_146.out
  have hns34_1 := NB145_146.out
  have hms34_0 := NB146_144.out
  have hms34_1 := NB146_145.out
  have hs35 : w28.cell? ⟨gb146, 2, none⟩ = some (.int .i64 0) := (Xf BK146.out 2).trans rfl
  have hfs35 := Xh BK146.out 2
  have hns35_0 := NB144_146.out
  have hns35_1 := NB145_146.out
  have hms35_0 := NB146_144.out
  have hms35_1 := NB146_145.out
  have hs36 : w28.cell? ⟨gb146, 3, none⟩ = some (.int .i64 0) := (Xf BK146.out 3).trans rfl
  have hfs36 := Xh BK146.out 3
  have hns36_0 := NB144_146.out
  have hns36_1 := NB145_146.out
  have hms36_0 := NB146_144.out
  have hms36_1 := NB146_145.out
  refine skip_ (w1 := ?_) (by rfl) rfl ?_ ?_
  rotate_left
  ·go_simp
   rfl
  refine hK.out _ _ ⟨((Xi (p := ⟨gb146, _, none⟩) NB144_146.out _).trans (((Xi (p := ⟨gb146, _, none⟩) NB144_146.out _).trans (((Xi (p := ⟨gb146, _, none⟩) NB144_146.out _).trans (((Xi (p := ⟨gb146, _, none⟩) NB144_146.out _).trans (hHeld.1)))))))), ((Xi (p := ⟨gb146, _, none⟩) NB144_146.out _).trans (((Xi (p := ⟨gb146, _, none⟩) NB144_146.out _).trans (((Xi (p := ⟨gb146, _, none⟩) NB144_146.out _).trans (((Xi (p := ⟨gb146, _, none⟩) NB144_146.out _).trans (hHeld.2.1)))))))), ((Xi (p := ⟨gb146, _, none⟩) NB144_146.out _).trans (((Xi (p := ⟨gb146, _, none⟩) NB144_146.out _).trans (((Xi (p := ⟨gb146, _, none⟩) NB144_146.out _).trans (((Xi (p := ⟨gb146, _, none⟩) NB144_146.out _).trans (hHeld.2.2.1)))))))), ((Xi (p := ⟨gb146, _, none⟩) NB144_146.out _).trans (((Xi (p := ⟨gb146, _, none⟩) NB144_146.out _).trans (((Xi (p := ⟨gb146, _, none⟩) NB144_146.out _).trans (((Xi (p := ⟨gb146, _, none⟩) NB144_146.out _).trans (hHeld.2.2.2))))))))⟩ (fun hHeld => ?_)
  clear hK K
  refine done_ (by kernel_rfl) ?_
  have hnb37 := NB144_145.out
  have hnc37 := NB145_144.out
  have hnb38 := NB144_146.out
  have hnc38 := NB146_144.out
  have hcz39_0 : w28.cell? ⟨gb144, 0, none⟩ = some (.int .i64 a0_0) := (Xf BK144.out 0).trans rfl
  have hcz39_1 : w28.cell? ⟨gb144, 1, none⟩ = some (.int .i64 a0_1) := (Xf BK144.out 1).trans rfl
  have hcz39_2 : w28.cell? ⟨gb144, 2, none⟩ = some (.int .i64 a0_2) := (Xf BK144.out 2).trans rfl
  have hcz39_3 : w28.cell? ⟨gb144, 3, none⟩ = some (.int .i64 a0_3) := (Xf BK144.out 3).trans rfl
  have hfz39_0 := Xh BK144.out 0
  have hfz39_1 := Xh BK144.out 1
  have hfz39_2 := Xh BK144.out 2
  have hfz39_3 := Xh BK144.out 3
  go_upto_region 5 with (first | ((with_reducible refine gate_callee (f := 86) rfl ?_); refine goesL_ (some 15) rfl rfl Try.func86 (by kernel_rfl) rfl #[.agg #[.int .i64 a0_0, .int .i64 a0_1, .int .i64 a0_2, .int .i64 a0_3]] rfl (by (try simp only [List.map_toArray, List.map_cons, List.map_nil]); first | done | rfl | (simp only [List.length_drop, List.length_take]; rfl)) ?_; (with_reducible refine (box_Empty.calls a0_0 a0_1 a0_2 a0_3 Zf _ A4.out).mono ?_); rintro e w40 ⟨rfl, hb⟩; refine ⟨_, rfl, ?_⟩; have n0_ := Za (Xk (g := gb144) (o := .cells #[.int .i64 a0_0, .int .i64 a0_1, .int .i64 a0_2, .int .i64 a0_3] 37 (0, 0)) (by (with_reducible repeat (first | refine Xd ?_ _ | refine Xg ?_ | refine Xe ?_ _)); refine Xj ?_ NB144_146.out _; (with_reducible repeat (first | refine Xd ?_ _ | refine Xg ?_ | refine Xe ?_ _)); refine Xj ?_ NB144_146.out _; (with_reducible repeat (first | refine Xd ?_ _ | refine Xg ?_ | refine Xe ?_ _)); refine Xj ?_ NB144_146.out _; (with_reducible repeat (first | refine Xd ?_ _ | refine Xg ?_ | refine Xe ?_ _)); refine Xj ?_ NB144_146.out _; (with_reducible repeat (first | refine Xd ?_ _ | refine Xg ?_ | refine Xe ?_ _)); refine Xj ?_ NB144_145.out _; (with_reducible repeat (first | refine Xd ?_ _ | refine Xg ?_ | refine Xe ?_ _)); refine Xj ?_ NB144_145.out _; (with_reducible repeat (first | refine Xd ?_ _ | refine Xg ?_ | refine Xe ?_ _)); refine Xj ?_ NB144_145.out _; (with_reducible repeat (first | refine Xd ?_ _ | refine Xg ?_ | refine Xe ?_ _)); refine Xj ?_ NB144_145.out _; (with_reducible repeat (first | refine Xd ?_ _ | refine Xg ?_ | refine Xe ?_ _)); exact BK144.out) hb); have n1_ := Za (Xk (g := gb145) (o := .cells #[.int .i64 a0_0, .int .i64 a0_1, .int .i64 a0_2, .int .i64 a0_3] 37 (0, 0)) (by (with_reducible repeat (first | refine Xd ?_ _ | refine Xg ?_ | refine Xe ?_ _)); refine Xj ?_ NB145_146.out _; (with_reducible repeat (first | refine Xd ?_ _ | refine Xg ?_ | refine Xe ?_ _)); refine Xj ?_ NB145_146.out _; (with_reducible repeat (first | refine Xd ?_ _ | refine Xg ?_ | refine Xe ?_ _)); refine Xj ?_ NB145_146.out _; (with_reducible repeat (first | refine Xd ?_ _ | refine Xg ?_ | refine Xe ?_ _)); refine Xj ?_ NB145_146.out _; (with_reducible repeat (first | refine Xd ?_ _ | refine Xg ?_ | refine Xe ?_ _)); refine blk_put (cs := #[.int .i64 a0_0, .int .i64 a0_1, .int .i64 a0_2, .int .i64 0]) ?_ 3 _ rfl; (with_reducible repeat (first | refine Xd ?_ _ | refine Xg ?_ | refine Xe ?_ _)); refine blk_put (cs := #[.int .i64 a0_0, .int .i64 a0_1, .int .i64 0, .int .i64 0]) ?_ 2 _ rfl; (with_reducible repeat (first | refine Xd ?_ _ | refine Xg ?_ | refine Xe ?_ _)); refine blk_put (cs := #[.int .i64 a0_0, .int .i64 0, .int .i64 0, .int .i64 0]) ?_ 1 _ rfl; (with_reducible repeat (first | refine Xd ?_ _ | refine Xg ?_ | refine Xe ?_ _)); refine blk_put (cs := #[.int .i64 0, .int .i64 0, .int .i64 0, .int .i64 0]) ?_ 0 _ rfl; (with_reducible repeat (first | refine Xd ?_ _ | refine Xg ?_ | refine Xe ?_ _)); exact BK145.out) hb); have n2_ := Za (Xk (g := gb146) (o := .cells #[.int .i64 a0_0, .int .i64 a0_1, .int .i64 a0_2, .int .i64 a0_3] 37 (0, 0)) (by (with_reducible repeat (first | refine Xd ?_ _ | refine Xg ?_ | refine Xe ?_ _)); refine blk_put (cs := #[.int .i64 a0_0, .int .i64 a0_1, .int .i64 a0_2, .int .i64 0]) ?_ 3 _ rfl; (with_reducible repeat (first | refine Xd ?_ _ | refine Xg ?_ | refine Xe ?_ _)); refine blk_put (cs := #[.int .i64 a0_0, .int .i64 a0_1, .int .i64 0, .int .i64 0]) ?_ 2 _ rfl; (with_reducible repeat (first | refine Xd ?_ _ | refine Xg ?_ | refine Xe ?_ _)); refine blk_put (cs := #[.int .i64 a0_0, .int .i64 0, .int .i64 0, .int .i64 0]) ?_ 1 _ rfl; (with_reducible repeat (first | refine Xd ?_ _ | refine Xg ?_ | refine Xe ?_ _)); refine blk_put (cs := #[.int .i64 0, .int .i64 0, .int .i64 0, .int .i64 0]) ?_ 0 _ rfl; (with_reducible repeat (first | refine Xd ?_ _ | refine Xg ?_ | refine Xe ?_ _)); refine Xj ?_ NB146_145.out _; (with_reducible repeat (first | refine Xd ?_ _ | refine Xg ?_ | refine Xe ?_ _)); refine Xj ?_ NB146_145.out _; (with_reducible repeat (first | refine Xd ?_ _ | refine Xg ?_ | refine Xe ?_ _)); refine Xj ?_ NB146_145.out _; (with_reducible repeat (first | refine Xd ?_ _ | refine Xg ?_ | refine Xe ?_ _)); refine Xj ?_ NB146_145.out _; (with_reducible repeat (first | refine Xd ?_ _ | refine Xg ?_ | refine Xe ?_ _)); exact BK146.out) hb); have n3_ := Za (below_step (hb_7 HB.out) hb); clear BK144; clear BK145; clear BK146; clear HB; have BK144 := n0_; have BK145 := n1_; have BK146 := n2_; have HB := n3_; clear n0_ n1_ n2_ n3_; (try clear hb); (try clear hb2); (try clear hk); (try clear hi)))
  (try simp only [Act.put, Xa, Xb, Xc])
  go_cut [16] (fun v16 wc => ∃ (kq : Nat) (x16_22 : Bool), v16 = .bool x16_22 ∧ Aside0 (box_Split.j0 kq a1 a2 x16_22 a0_0 a0_1 a0_2 a0_3 a0_0 a0_1 a0_2 a0_3 a0_0 a0_1 a0_2 a0_3 = some r) ∧ Aside0 (kq ≤ k) ∧ Aside0 (wc.heap[gb144]? = some (.cells #[.int .i64 a0_0, .int .i64 a0_1, .int .i64 a0_2, .int .i64 a0_3] 37 (0, 0))) ∧ Aside0 (wc.heap[gb145]? = some (.cells #[.int .i64 a0_0, .int .i64 a0_1, .int .i64 a0_2, .int .i64 a0_3] 37 (0, 0))) ∧ Aside0 (wc.heap[gb146]? = some (.cells #[.int .i64 a0_0, .int .i64 a0_1, .int .i64 a0_2, .int .i64 a0_3] 37 (0, 0))) ∧ Aside0 (Below w.heap.size w wc))
  case first =>
   have H := HC23.out
   clear HC23
   by_cases c41 : a1 = true
   ·subst c41
    have H1 : (if a0_0 < a2 then (box_Split.j0 k true a2 (decide (a2 < a0_2)) a0_0 a0_1 a0_2 a0_3 a0_0 a0_1 a0_2 a0_3 a0_0 a0_1 a0_2 a0_3) else (box_Split.j0 k true a2 Zf a0_0 a0_1 a0_2 a0_3 a0_0 a0_1 a0_2 a0_3 a0_0 a0_1 a0_2 a0_3)) = some r := by rw [if_pos rfl] at H; exact H
    clear H
    have H := H1
    clear H1
    by_cases c42 : a0_0 < a2
    ·rw [if_pos c42] at H
     have c42b0 : decide (a0_0 < a2) = true := decide_eq_true c42
     clear c42
     (first | rw [c42b0] | (simp only [i64_w, i32_w]; rw [c42b0]) | skip)
     have H' := Za H
     clear H
     have hnb43 := NB144_145.out
     have hnc43 := NB145_144.out
     have hnb44 := NB144_146.out
     have hnc44 := NB146_144.out
     have hcz45_0 : w40.cell? ⟨gb144, 0, none⟩ = some (.int .i64 a0_0) := (Xf BK144.out 0).trans rfl
     have hcz45_1 : w40.cell? ⟨gb144, 1, none⟩ = some (.int .i64 a0_1) := (Xf BK144.out 1).trans rfl
     have hcz45_2 : w40.cell? ⟨gb144, 2, none⟩ = some (.int .i64 a0_2) := (Xf BK144.out 2).trans rfl
     have hcz45_3 : w40.cell? ⟨gb144, 3, none⟩ = some (.int .i64 a0_3) := (Xf BK144.out 3).trans rfl
     have hfz45_0 := Xh BK144.out 0
     have hfz45_1 := Xh BK144.out 1
     have hfz45_2 := Xh BK144.out 2
     have hfz45_3 := Xh BK144.out 3
     go_wp2
     go_meet
     case rel => exact ⟨_, (decide (a2 < a0_2)), (by first | rfl | (simp; done) | (simp [*]; done)), H', ⟨by first | omega | exact Nat.le_refl _⟩, ⟨by (with_reducible repeat (first | refine Xd ?_ _ | refine Xg ?_ | refine Xe ?_ _)); exact BK144.out⟩, ⟨by (with_reducible repeat (first | refine Xd ?_ _ | refine Xg ?_ | refine Xe ?_ _)); exact BK145.out⟩, ⟨by (with_reducible repeat (first | refine Xd ?_ _ | refine Xg ?_ | refine Xe ?_ _)); exact BK146.out⟩, ⟨by repeat (first | (with_reducible first | exact HB.out | apply below_alloc | apply pw_below_drewN | apply below_drew1 | refine below_set ?_ GE144.out | refine below_set ?_ GE145.out | refine below_set ?_ GE146.out) | exact HB.out)⟩⟩
    ·rw [if_neg c42] at H
     have c42b0 : decide (a0_0 < a2) = Zf := decide_eq_false c42
     clear c42
     (first | rw [c42b0] | (simp only [i64_w, i32_w]; rw [c42b0]) | skip)
     have H' := Za H
     clear H
     have hnb46 := NB144_145.out
     have hnc46 := NB145_144.out
     have hnb47 := NB144_146.out
     have hnc47 := NB146_144.out
     have hcz48_0 : w40.cell? ⟨gb144, 0, none⟩ = some (.int .i64 a0_0) := (Xf BK144.out 0).trans rfl
     have hcz48_1 : w40.cell? ⟨gb144, 1, none⟩ = some (.int .i64 a0_1) := (Xf BK144.out 1).trans rfl
     have hcz48_2 : w40.cell? ⟨gb144, 2, none⟩ = some (.int .i64 a0_2) := (Xf BK144.out 2).trans rfl
     have hcz48_3 : w40.cell? ⟨gb144, 3, none⟩ = some (.int .i64 a0_3) := (Xf BK144.out 3).trans rfl
     have hfz48_0 := Xh BK144.out 0
     have hfz48_1 := Xh BK144.out 1
     have hfz48_2 := Xh BK144.out 2
     have hfz48_3 := Xh BK144.out 3
     go_wp2
     go_meet
     case rel => exact ⟨_, (Zf), (by first | rfl | (simp; done) | (simp [*]; done)), H', ⟨by first | omega | exact Nat.le_refl _⟩, ⟨by (with_reducible repeat (first | refine Xd ?_ _ | refine Xg ?_ | refine Xe ?_ _)); exact BK144.out⟩, ⟨by (with_reducible repeat (first | refine Xd ?_ _ | refine Xg ?_ | refine Xe ?_ _)); exact BK145.out⟩, ⟨by (with_reducible repeat (first | refine Xd ?_ _ | refine Xg ?_ | refine Xe ?_ _)); exact BK146.out⟩, ⟨by repeat (first | (with_reducible first | exact HB.out | apply below_alloc | apply pw_below_drewN | apply below_drew1 | refine below_set ?_ GE144.out | refine below_set ?_ GE145.out | refine below_set ?_ GE146.out) | exact HB.out)⟩⟩
   ·replace c41 := Bool.eq_false_iff.mpr c41
    subst c41
    have H1 : (box_Split.j0 k Zf a2 Zf a0_0 a0_1 a0_2 a0_3 a0_0 a0_1 a0_2 a0_3 a0_0 a0_1 a0_2 a0_3) = some r := by rw [if_neg (show ¬ (Zf = true) by decide)] at H; exact H
    clear H
    have H := H1
    clear H1
    have H' := Za H
    clear H
    go_wp2
    go_meet
    case rel => exact ⟨_, (Zf), (by first | rfl | (simp; done) | (simp [*]; done)), H', ⟨by first | omega | exact Nat.le_refl _⟩, ⟨by (with_reducible repeat (first | refine Xd ?_ _ | refine Xg ?_ | refine Xe ?_ _)); exact BK144.out⟩, ⟨by (with_reducible repeat (first | refine Xd ?_ _ | refine Xg ?_ | refine Xe ?_ _)); exact BK145.out⟩, ⟨by (with_reducible repeat (first | refine Xd ?_ _ | refine Xg ?_ | refine Xe ?_ _)); exact BK146.out⟩, ⟨by repeat (first | (with_reducible first | exact HB.out | apply below_alloc | apply pw_below_drewN | apply below_drew1 | refine below_set ?_ GE144.out | refine below_set ?_ GE145.out | refine below_set ?_ GE146.out) | exact HB.out)⟩⟩
  case rest =>
   clear HC23
   try clear c1
   try clear c2
   try clear p2
   try clear c3
   try clear c4
   try clear c5
   try clear c8
   try clear c19
   try clear c20
   try clear c37
   try clear c38
   try clear c41
   try clear c42
   try clear c42b0
   try clear c43
   try clear c44
   try clear c46
   try clear c47
   try clear hcz21_0
   try clear hcz21_1
   try clear hcz21_2
   try clear hcz21_3
   try clear hcz39_0
   try clear hcz39_1
   try clear hcz39_2
   try clear hcz39_3
   try clear hcz45_0
   try clear hcz45_1
   try clear hcz45_2
   try clear hcz45_3
   try clear hcz48_0
   try clear hcz48_1
   try clear hcz48_2
   try clear hcz48_3
   try clear hfz21_0
   try clear hfz21_1
   try clear hfz21_2
   try clear hfz21_3
   try clear hfz39_0
   try clear hfz39_1
   try clear hfz39_2
   try clear hfz39_3
   try clear hfz45_0
   try clear hfz45_1
   try clear hfz45_2
   try clear hfz45_3
   try clear hfz48_0
   try clear hfz48_1
   try clear hfz48_2
   try clear hfz48_3
   obtain ⟨kq, x16_22, rfl, HA, HJ22, BK144, BK145, BK146, HB⟩ := hcut
   cases kq with
   | zero => exact absurd HA.out (by simp [box_Split.j0])
   | succ kj22 =>
    have H := HA.out
    clear HA
    simp only [box_Split.j0] at H
    by_cases c49 : x16_22 = true
    ·subst c49
     have H1 : (some (([(⟨a0_0, a0_1, a2, a0_3⟩ : S37), (⟨a2, a0_1, a0_2, a0_3⟩ : S37)] : List (S37)))) = some r := by rw [if_pos rfl] at H; exact H
     clear H
     have H := H1
     clear H1
     obtain ⟨y148, hy148⟩ : ∃ y_ : List (S37), y_ = (([(⟨a0_0, a0_1, a2, a0_3⟩ : S37), (⟨a2, a0_1, a0_2, a0_3⟩ : S37)] : List (S37))) := ⟨_, rfl⟩
     replace H : (some y148) = some r := by first | (rw [hy148]; with_reducible exact H) | (have H2_ := (Option.bind_some _ _).symm.trans H; rw [hy148]; with_reducible exact H2_) | (have H2_ := (Option.bind_some _ _).symm.trans H; with_reducible exact H2_) | with_reducible exact H | (rw [hy148]; exact H) | exact H
     have Ny148 := Za hy148
     clear hy148
     obtain rfl := Option.some.inj H
     have hnb50 := NB145_144.out
     have hnc50 := NB144_145.out
     have hnb51 := NB145_146.out
     have hnc51 := NB146_145.out
     have hcz52_0 : wc.cell? ⟨gb145, 0, none⟩ = some (.int .i64 a0_0) := (Xf BK145.out 0).trans rfl
     have hcz52_1 : wc.cell? ⟨gb145, 1, none⟩ = some (.int .i64 a0_1) := (Xf BK145.out 1).trans rfl
     have hcz52_2 : wc.cell? ⟨gb145, 2, none⟩ = some (.int .i64 a0_2) := (Xf BK145.out 2).trans rfl
     have hcz52_3 : wc.cell? ⟨gb145, 3, none⟩ = some (.int .i64 a0_3) := (Xf BK145.out 3).trans rfl
     have hfz52_0 := Xh BK145.out 0
     have hfz52_1 := Xh BK145.out 1
     have hfz52_2 := Xh BK145.out 2
     have hfz52_3 := Xh BK145.out 3
     have hnb53 := NB146_144.out
     have hnc53 := NB144_146.out
     have hcz54_0 : wc.cell? ⟨gb146, 0, none⟩ = some (.int .i64 a0_0) := (Xf BK146.out 0).trans rfl
     have hcz54_1 : wc.cell? ⟨gb146, 1, none⟩ = some (.int .i64 a0_1) := (Xf BK146.out 1).trans rfl
     have hcz54_2 : wc.cell? ⟨gb146, 2, none⟩ = some (.int .i64 a0_2) := (Xf BK146.out 2).trans rfl
     have hcz54_3 : wc.cell? ⟨gb146, 3, none⟩ = some (.int .i64 a0_3) := (Xf BK146.out 3).trans rfl
     have hfz54_0 := Xh BK146.out 0
     have hfz54_1 := Xh BK146.out 1
     have hfz54_2 := Xh BK146.out 2
     have hfz54_3 := Xh BK146.out 3
     go_wp2_with (first | ((with_reducible refine gate_dst (N := 55) rfl ?_); refine Kd.R_lit k37 _ 37 ?hg (N := 55) ?hd (xs := ([(⟨a0_0, a0_1, a2, a0_3⟩ : S37), (⟨a2, a0_1, a0_2, a0_3⟩ : S37)] : List (S37))) (inner := [.int .i64 a0_0, .int .i64 a0_1, .int .i64 a2, .int .i64 a0_3, .int .i64 a2, .int .i64 a0_1, .int .i64 a0_2, .int .i64 a0_3]) (ok := fun _ => True) (okp := fun _ => True) ?hr ?hp (fun _ hk => hk) trivial (Below.refl _ _) (Nat.le_refl _) (by simp) ?_; (case hd => rfl); (case hg => rfl); (case hr => first | (go_simp; done) | (go_simp; rfl)); (case hp => exact (Reps.c4 (show Kd.M k37 _ _ _ (⟨a0_0, a0_1, a2, a0_3⟩ : S37) [.int .i64 a0_0, .int .i64 a0_1, .int .i64 a2, .int .i64 a0_3] from (k37_mkM _ _ _ (⟨a0_0, a0_1, a2, a0_3⟩ : S37) )) (Reps.c4 (show Kd.M k37 _ _ _ (⟨a2, a0_1, a0_2, a0_3⟩ : S37) [.int .i64 a2, .int .i64 a0_1, .int .i64 a0_2, .int .i64 a0_3] from (k37_mkM _ _ _ (⟨a2, a0_1, a0_2, a0_3⟩ : S37) )) (Reps.none _ _)))); intro v149 w55 ho56 hb hg_ hnew_; clear hg_ hnew_; (first | rw [← Ny148.out] at ho56 | (simp only [Int.reduceToNat] at ho56; rw [← Ny148.out] at ho56)); have n0_ := Za (Kd.R_lower (Kd.R_newB (Kd.R_newB (Kd.R_newB ho56 (g := gb144) (o := .cells #[.int .i64 a0_0, .int .i64 a0_1, .int .i64 a0_2, .int .i64 a0_3] 37 (0, 0)) (by (with_reducible repeat (first | refine Xd ?_ _ | refine Xg ?_ | refine Xe ?_ _)); refine Xj ?_ NB144_146.out _; (with_reducible repeat (first | refine Xd ?_ _ | refine Xg ?_ | refine Xe ?_ _)); refine Xj ?_ NB144_145.out _; (with_reducible repeat (first | refine Xd ?_ _ | refine Xg ?_ | refine Xe ?_ _)); exact BK144.out)) (g := gb145) (o := .cells #[.int .i64 a0_0, .int .i64 a0_1, .int .i64 a2, .int .i64 a0_3] 37 (0, 0)) (by (with_reducible repeat (first | refine Xd ?_ _ | refine Xg ?_ | refine Xe ?_ _)); refine Xj ?_ NB145_146.out _; (with_reducible repeat (first | refine Xd ?_ _ | refine Xg ?_ | refine Xe ?_ _)); refine blk_put (cs := #[.int .i64 a0_0, .int .i64 a0_1, .int .i64 a0_2, .int .i64 a0_3]) ?_ 2 _ rfl; (with_reducible repeat (first | refine Xd ?_ _ | refine Xg ?_ | refine Xe ?_ _)); exact BK145.out)) (g := gb146) (o := .cells #[.int .i64 a2, .int .i64 a0_1, .int .i64 a0_2, .int .i64 a0_3] 37 (0, 0)) (by (with_reducible repeat (first | refine Xd ?_ _ | refine Xg ?_ | refine Xe ?_ _)); refine blk_put (cs := #[.int .i64 a0_0, .int .i64 a0_1, .int .i64 a0_2, .int .i64 a0_3]) ?_ 0 _ rfl; (with_reducible repeat (first | refine Xd ?_ _ | refine Xg ?_ | refine Xe ?_ _)); refine Xj ?_ NB146_145.out _; (with_reducible repeat (first | refine Xd ?_ _ | refine Xg ?_ | refine Xe ?_ _)); exact BK146.out)) (Xl (hb_7 HB.out))); have n1_ := Za (Xk (g := gb144) (o := .cells #[.int .i64 a0_0, .int .i64 a0_1, .int .i64 a0_2, .int .i64 a0_3] 37 (0, 0)) (by (with_reducible repeat (first | refine Xd ?_ _ | refine Xg ?_ | refine Xe ?_ _)); refine Xj ?_ NB144_146.out _; (with_reducible repeat (first | refine Xd ?_ _ | refine Xg ?_ | refine Xe ?_ _)); refine Xj ?_ NB144_145.out _; (with_reducible repeat (first | refine Xd ?_ _ | refine Xg ?_ | refine Xe ?_ _)); exact BK144.out) hb); have n2_ := Za (Xk (g := gb145) (o := .cells #[.int .i64 a0_0, .int .i64 a0_1, .int .i64 a2, .int .i64 a0_3] 37 (0, 0)) (by (with_reducible repeat (first | refine Xd ?_ _ | refine Xg ?_ | refine Xe ?_ _)); refine Xj ?_ NB145_146.out _; (with_reducible repeat (first | refine Xd ?_ _ | refine Xg ?_ | refine Xe ?_ _)); refine blk_put (cs := #[.int .i64 a0_0, .int .i64 a0_1, .int .i64 a0_2, .int .i64 a0_3]) ?_ 2 _ rfl; (with_reducible repeat (first | refine Xd ?_ _ | refine Xg ?_ | refine Xe ?_ _)); exact BK145.out) hb); have n3_ := Za (Xk (g := gb146) (o := .cells #[.int .i64 a2, .int .i64 a0_1, .int .i64 a0_2, .int .i64 a0_3] 37 (0, 0)) (by (with_reducible repeat (first | refine Xd ?_ _ | refine Xg ?_ | refine Xe ?_ _)); refine blk_put (cs := #[.int .i64 a0_0, .int .i64 a0_1, .int .i64 a0_2, .int .i64 a0_3]) ?_ 0 _ rfl; (with_reducible repeat (first | refine Xd ?_ _ | refine Xg ?_ | refine Xe ?_ _)); refine Xj ?_ NB146_145.out _; (with_reducible repeat (first | refine Xd ?_ _ | refine Xg ?_ | refine Xe ?_ _)); exact BK146.out) hb); have n4_ := Za (below_step (hb_7 HB.out) hb); clear BK144; clear BK145; clear BK146; clear HB; have HO150 := n0_; have BK144 := n1_; have BK145 := n2_; have BK146 := n3_; have HB := n4_; clear n0_ n1_ n2_ n3_ n4_; clear hb ho56))
     go_ret
     exact ⟨_, by first | rfl | (simp [errW_none, errW_some] <;> rfl) | (simp [*, errW_none, errW_some] <;> rfl), by (with_reducible repeat (first | apply Kd.R_alloc | apply Kd.R_drewN | apply Kd.R_drew)); exact Kd.R_mono HO150.out (fun _ hk => trivial), by repeat (first | (with_reducible first | exact HB.out | apply below_alloc | apply pw_below_drewN | apply below_drew1 | refine below_set ?_ GE144.out | refine below_set ?_ GE145.out | refine below_set ?_ GE146.out) | exact HB.out)⟩
    ·replace c49 := Bool.eq_false_iff.mpr c49
     subst c49
     have H1 : (if a1 = true then (some (([(⟨a0_0, a0_1, a0_2, a0_3⟩ : S37)] : List (S37)))) else (if a0_1 < a2 then (if a2 < a0_3 then (some (([(⟨a0_0, a0_1, a0_2, a2⟩ : S37), (⟨a0_0, a2, a0_2, a0_3⟩ : S37)] : List (S37)))) else (some (([(⟨a0_0, a0_1, a0_2, a0_3⟩ : S37)] : List (S37))))) else (some (([(⟨a0_0, a0_1, a0_2, a0_3⟩ : S37)] : List (S37)))))) = some r := by rw [if_neg (show ¬ (Zf = true) by decide)] at H; exact H
     clear H
     have H := H1
     clear H1
     by_cases c57 : a1 = true
     ·subst c57
      have H1 : (some (([(⟨a0_0, a0_1, a0_2, a0_3⟩ : S37)] : List (S37)))) = some r := by rw [if_pos rfl] at H; exact H
      clear H
      have H := H1
      clear H1
      obtain ⟨y151, hy151⟩ : ∃ y_ : List (S37), y_ = (([(⟨a0_0, a0_1, a0_2, a0_3⟩ : S37)] : List (S37))) := ⟨_, rfl⟩
      replace H : (some y151) = some r := by first | (rw [hy151]; with_reducible exact H) | (have H2_ := (Option.bind_some _ _).symm.trans H; rw [hy151]; with_reducible exact H2_) | (have H2_ := (Option.bind_some _ _).symm.trans H; with_reducible exact H2_) | with_reducible exact H | (rw [hy151]; exact H) | exact H
      have Ny151 := Za hy151
      clear hy151
      obtain rfl := Option.some.inj H
      have hnb58 := NB144_145.out
      have hnc58 := NB145_144.out
      have hnb59 := NB144_146.out
      have hnc59 := NB146_144.out
      have hcz60_0 : wc.cell? ⟨gb144, 0, none⟩ = some (.int .i64 a0_0) := (Xf BK144.out 0).trans rfl
      have hcz60_1 : wc.cell? ⟨gb144, 1, none⟩ = some (.int .i64 a0_1) := (Xf BK144.out 1).trans rfl
      have hcz60_2 : wc.cell? ⟨gb144, 2, none⟩ = some (.int .i64 a0_2) := (Xf BK144.out 2).trans rfl
      have hcz60_3 : wc.cell? ⟨gb144, 3, none⟩ = some (.int .i64 a0_3) := (Xf BK144.out 3).trans rfl
      have hfz60_0 := Xh BK144.out 0
      have hfz60_1 := Xh BK144.out 1
      have hfz60_2 := Xh BK144.out 2
      have hfz60_3 := Xh BK144.out 3
      go_wp2_with (first | ((with_reducible refine gate_dst (N := 12) rfl ?_); refine Kd.R_lit k37 _ 37 ?hg (N := 12) ?hd (xs := ([(⟨a0_0, a0_1, a0_2, a0_3⟩ : S37)] : List (S37))) (inner := [.int .i64 a0_0, .int .i64 a0_1, .int .i64 a0_2, .int .i64 a0_3]) (ok := fun _ => True) (okp := fun _ => True) ?hr ?hp (fun _ hk => hk) trivial (Below.refl _ _) (Nat.le_refl _) (by simp) ?_; (case hd => rfl); (case hg => rfl); (case hr => first | (go_simp; done) | (go_simp; rfl)); (case hp => exact (Reps.c4 (show Kd.M k37 _ _ _ (⟨a0_0, a0_1, a0_2, a0_3⟩ : S37) [.int .i64 a0_0, .int .i64 a0_1, .int .i64 a0_2, .int .i64 a0_3] from (k37_mkM _ _ _ (⟨a0_0, a0_1, a0_2, a0_3⟩ : S37) )) (Reps.none _ _))); intro v152 w61 ho62 hb hg_ hnew_; clear hg_ hnew_; (first | rw [← Ny151.out] at ho62 | (simp only [Int.reduceToNat] at ho62; rw [← Ny151.out] at ho62)); have n0_ := Za (Kd.R_lower (Kd.R_newB (Kd.R_newB (Kd.R_newB ho62 (g := gb144) (o := .cells #[.int .i64 a0_0, .int .i64 a0_1, .int .i64 a0_2, .int .i64 a0_3] 37 (0, 0)) (bb_7 BK144.out)) (g := gb145) (o := .cells #[.int .i64 a0_0, .int .i64 a0_1, .int .i64 a0_2, .int .i64 a0_3] 37 (0, 0)) (bb_7 BK145.out)) (g := gb146) (o := .cells #[.int .i64 a0_0, .int .i64 a0_1, .int .i64 a0_2, .int .i64 a0_3] 37 (0, 0)) (bb_7 BK146.out)) (Xl (hb_7 HB.out))); have n1_ := Za (Xk (g := gb144) (o := .cells #[.int .i64 a0_0, .int .i64 a0_1, .int .i64 a0_2, .int .i64 a0_3] 37 (0, 0)) (bb_7 BK144.out) hb); have n2_ := Za (Xk (g := gb145) (o := .cells #[.int .i64 a0_0, .int .i64 a0_1, .int .i64 a0_2, .int .i64 a0_3] 37 (0, 0)) (bb_7 BK145.out) hb); have n3_ := Za (Xk (g := gb146) (o := .cells #[.int .i64 a0_0, .int .i64 a0_1, .int .i64 a0_2, .int .i64 a0_3] 37 (0, 0)) (bb_7 BK146.out) hb); have n4_ := Za (below_step (hb_7 HB.out) hb); clear BK144; clear BK145; clear BK146; clear HB; have HO153 := n0_; have BK144 := n1_; have BK145 := n2_; have BK146 := n3_; have HB := n4_; clear n0_ n1_ n2_ n3_ n4_; clear hb ho62))
      go_ret
      exact ⟨_, by first | rfl | (simp [errW_none, errW_some] <;> rfl) | (simp [*, errW_none, errW_some] <;> rfl), by (with_reducible repeat (first | apply Kd.R_alloc | apply Kd.R_drewN | apply Kd.R_drew)); exact Kd.R_mono HO153.out (fun _ hk => trivial), by repeat (first | (with_reducible first | exact HB.out | apply below_alloc | apply pw_below_drewN | apply below_drew1 | refine below_set ?_ GE144.out | refine below_set ?_ GE145.out | refine below_set ?_ GE146.out) | exact HB.out)⟩
     ·replace c57 := Bool.eq_false_iff.mpr c57
      subst c57
      have H1 : (if a0_1 < a2 then (if a2 < a0_3 then (some (([(⟨a0_0, a0_1, a0_2, a2⟩ : S37), (⟨a0_0, a2, a0_2, a0_3⟩ : S37)] : List (S37)))) else (some (([(⟨a0_0, a0_1, a0_2, a0_3⟩ : S37)] : List (S37))))) else (some (([(⟨a0_0, a0_1, a0_2, a0_3⟩ : S37)] : List (S37))))) = some r := by rw [if_neg (show ¬ (Zf = true) by decide)] at H; exact H
      clear H
      have H := H1
      clear H1
      by_cases c63 : a0_1 < a2
      ·rw [if_pos c63] at H
       have c63b0 : decide (a0_1 < a2) = true := decide_eq_true c63
       clear c63
       by_cases c64 : a2 < a0_3
       ·rw [if_pos c64] at H
        have c64b0 : decide (a2 < a0_3) = true := decide_eq_true c64
        clear c64
        obtain ⟨y154, hy154⟩ : ∃ y_ : List (S37), y_ = (([(⟨a0_0, a0_1, a0_2, a2⟩ : S37), (⟨a0_0, a2, a0_2, a0_3⟩ : S37)] : List (S37))) := ⟨_, rfl⟩
        replace H : (some y154) = some r := by first | (rw [hy154]; with_reducible exact H) | (have H2_ := (Option.bind_some _ _).symm.trans H; rw [hy154]; with_reducible exact H2_) | (have H2_ := (Option.bind_some _ _).symm.trans H; with_reducible exact H2_) | with_reducible exact H | (rw [hy154]; exact H) | exact H
        have Ny154 := Za hy154
        clear hy154
        obtain rfl := Option.some.inj H
        have hnb65 := NB144_145.out
        have hnc65 := NB145_144.out
        have hnb66 := NB144_146.out
        have hnc66 := NB146_144.out
        have hcz67_0 : wc.cell? ⟨gb144, 0, none⟩ = some (.int .i64 a0_0) := (Xf BK144.out 0).trans rfl
        have hcz67_1 : wc.cell? ⟨gb144, 1, none⟩ = some (.int .i64 a0_1) := (Xf BK144.out 1).trans rfl
        have hcz67_2 : wc.cell? ⟨gb144, 2, none⟩ = some (.int .i64 a0_2) := (Xf BK144.out 2).trans rfl
        have hcz67_3 : wc.cell? ⟨gb144, 3, none⟩ = some (.int .i64 a0_3) := (Xf BK144.out 3).trans rfl
        have hfz67_0 := Xh BK144.out 0
        have hfz67_1 := Xh BK144.out 1
        have hfz67_2 := Xh BK144.out 2
        have hfz67_3 := Xh BK144.out 3
        have hnb68 := NB145_146.out
        have hnc68 := NB146_145.out
        have hcz69_0 : wc.cell? ⟨gb145, 0, none⟩ = some (.int .i64 a0_0) := (Xf BK145.out 0).trans rfl
        have hcz69_1 : wc.cell? ⟨gb145, 1, none⟩ = some (.int .i64 a0_1) := (Xf BK145.out 1).trans rfl
        have hcz69_2 : wc.cell? ⟨gb145, 2, none⟩ = some (.int .i64 a0_2) := (Xf BK145.out 2).trans rfl
        have hcz69_3 : wc.cell? ⟨gb145, 3, none⟩ = some (.int .i64 a0_3) := (Xf BK145.out 3).trans rfl
        have hfz69_0 := Xh BK145.out 0
        have hfz69_1 := Xh BK145.out 1
        have hfz69_2 := Xh BK145.out 2
        have hfz69_3 := Xh BK145.out 3
        have hcz70_0 : wc.cell? ⟨gb146, 0, none⟩ = some (.int .i64 a0_0) := (Xf BK146.out 0).trans rfl
        have hcz70_1 : wc.cell? ⟨gb146, 1, none⟩ = some (.int .i64 a0_1) := (Xf BK146.out 1).trans rfl
        have hcz70_2 : wc.cell? ⟨gb146, 2, none⟩ = some (.int .i64 a0_2) := (Xf BK146.out 2).trans rfl
        have hcz70_3 : wc.cell? ⟨gb146, 3, none⟩ = some (.int .i64 a0_3) := (Xf BK146.out 3).trans rfl
        have hfz70_0 := Xh BK146.out 0
        have hfz70_1 := Xh BK146.out 1
        have hfz70_2 := Xh BK146.out 2
        have hfz70_3 := Xh BK146.out 3
        go_wp2_with (first | ((with_reducible refine gate_dst (N := 55) rfl ?_); refine Kd.R_lit k37 _ 37 ?hg (N := 55) ?hd (xs := ([(⟨a0_0, a0_1, a0_2, a2⟩ : S37), (⟨a0_0, a2, a0_2, a0_3⟩ : S37)] : List (S37))) (inner := [.int .i64 a0_0, .int .i64 a0_1, .int .i64 a0_2, .int .i64 a2, .int .i64 a0_0, .int .i64 a2, .int .i64 a0_2, .int .i64 a0_3]) (ok := fun _ => True) (okp := fun _ => True) ?hr ?hp (fun _ hk => hk) trivial (Below.refl _ _) (Nat.le_refl _) (by simp) ?_; (case hd => rfl); (case hg => rfl); (case hr => first | (go_simp; done) | (go_simp; rfl)); (case hp => exact (Reps.c4 (show Kd.M k37 _ _ _ (⟨a0_0, a0_1, a0_2, a2⟩ : S37) [.int .i64 a0_0, .int .i64 a0_1, .int .i64 a0_2, .int .i64 a2] from (k37_mkM _ _ _ (⟨a0_0, a0_1, a0_2, a2⟩ : S37) )) (Reps.c4 (show Kd.M k37 _ _ _ (⟨a0_0, a2, a0_2, a0_3⟩ : S37) [.int .i64 a0_0, .int .i64 a2, .int .i64 a0_2, .int .i64 a0_3] from (k37_mkM _ _ _ (⟨a0_0, a2, a0_2, a0_3⟩ : S37) )) (Reps.none _ _)))); intro v155 w71 ho72 hb hg_ hnew_; clear hg_ hnew_; (first | rw [← Ny154.out] at ho72 | (simp only [Int.reduceToNat] at ho72; rw [← Ny154.out] at ho72)); have n0_ := Za (Kd.R_lower (Kd.R_newB (Kd.R_newB (Kd.R_newB ho72 (g := gb144) (o := .cells #[.int .i64 a0_0, .int .i64 a0_1, .int .i64 a0_2, .int .i64 a0_3] 37 (0, 0)) (by (with_reducible repeat (first | refine Xd ?_ _ | refine Xg ?_ | refine Xe ?_ _)); refine Xj ?_ NB144_146.out _; (with_reducible repeat (first | refine Xd ?_ _ | refine Xg ?_ | refine Xe ?_ _)); refine Xj ?_ NB144_145.out _; (with_reducible repeat (first | refine Xd ?_ _ | refine Xg ?_ | refine Xe ?_ _)); exact BK144.out)) (g := gb145) (o := .cells #[.int .i64 a0_0, .int .i64 a0_1, .int .i64 a0_2, .int .i64 a2] 37 (0, 0)) (by (with_reducible repeat (first | refine Xd ?_ _ | refine Xg ?_ | refine Xe ?_ _)); refine Xj ?_ NB145_146.out _; (with_reducible repeat (first | refine Xd ?_ _ | refine Xg ?_ | refine Xe ?_ _)); refine blk_put (cs := #[.int .i64 a0_0, .int .i64 a0_1, .int .i64 a0_2, .int .i64 a0_3]) ?_ 3 _ rfl; (with_reducible repeat (first | refine Xd ?_ _ | refine Xg ?_ | refine Xe ?_ _)); exact BK145.out)) (g := gb146) (o := .cells #[.int .i64 a0_0, .int .i64 a2, .int .i64 a0_2, .int .i64 a0_3] 37 (0, 0)) (by (with_reducible repeat (first | refine Xd ?_ _ | refine Xg ?_ | refine Xe ?_ _)); refine blk_put (cs := #[.int .i64 a0_0, .int .i64 a0_1, .int .i64 a0_2, .int .i64 a0_3]) ?_ 1 _ rfl; (with_reducible repeat (first | refine Xd ?_ _ | refine Xg ?_ | refine Xe ?_ _)); refine Xj ?_ NB146_145.out _; (with_reducible repeat (first | refine Xd ?_ _ | refine Xg ?_ | refine Xe ?_ _)); exact BK146.out)) (Xl (hb_7 HB.out))); have n1_ := Za (Xk (g := gb144) (o := .cells #[.int .i64 a0_0, .int .i64 a0_1, .int .i64 a0_2, .int .i64 a0_3] 37 (0, 0)) (by (with_reducible repeat (first | refine Xd ?_ _ | refine Xg ?_ | refine Xe ?_ _)); refine Xj ?_ NB144_146.out _; (with_reducible repeat (first | refine Xd ?_ _ | refine Xg ?_ | refine Xe ?_ _)); refine Xj ?_ NB144_145.out _; (with_reducible repeat (first | refine Xd ?_ _ | refine Xg ?_ | refine Xe ?_ _)); exact BK144.out) hb); have n2_ := Za (Xk (g := gb145) (o := .cells #[.int .i64 a0_0, .int .i64 a0_1, .int .i64 a0_2, .int .i64 a2] 37 (0, 0)) (by (with_reducible repeat (first | refine Xd ?_ _ | refine Xg ?_ | refine Xe ?_ _)); refine Xj ?_ NB145_146.out _; (with_reducible repeat (first | refine Xd ?_ _ | refine Xg ?_ | refine Xe ?_ _)); refine blk_put (cs := #[.int .i64 a0_0, .int .i64 a0_1, .int .i64 a0_2, .int .i64 a0_3]) ?_ 3 _ rfl; (with_reducible repeat (first | refine Xd ?_ _ | refine Xg ?_ | refine Xe ?_ _)); exact BK145.out) hb); have n3_ := Za (Xk (g := gb146) (o := .cells #[.int .i64 a0_0, .int .i64 a2, .int .i64 a0_2, .int .i64 a0_3] 37 (0, 0)) (by (with_reducible repeat (first | refine Xd ?_ _ | refine Xg ?_ | refine Xe ?_ _)); refine blk_put (cs := #[.int .i64 a0_0, .int .i64 a0_1, .int .i64 a0_2, .int .i64 a0_3]) ?_ 1 _ rfl; (with_reducible repeat (first | refine Xd ?_ _ | refine Xg ?_ | refine Xe ?_ _)); refine Xj ?_ NB146_145.out _; (with_reducible repeat (first | refine Xd ?_ _ | refine Xg ?_ | refine Xe ?_ _)); exact BK146.out) hb); have n4_ := Za (below_step (hb_7 HB.out) hb); clear BK144; clear BK145; clear BK146; clear HB; have HO156 := n0_; have BK144 := n1_; have BK145 := n2_; have BK146 := n3_; have HB := n4_; clear n0_ n1_ n2_ n3_ n4_; clear hb ho72))
        go_ret
        exact ⟨_, by first | rfl | (simp [errW_none, errW_some] <;> rfl) | (simp [*, errW_none, errW_some] <;> rfl), by (with_reducible repeat (first | apply Kd.R_alloc | apply Kd.R_drewN | apply Kd.R_drew)); exact Kd.R_mono HO156.out (fun _ hk => trivial), by repeat (first | (with_reducible first | exact HB.out | apply below_alloc | apply pw_below_drewN | apply below_drew1 | refine below_set ?_ GE144.out | refine below_set ?_ GE145.out | refine below_set ?_ GE146.out) | exact HB.out)⟩
       ·rw [if_neg c64] at H
        have c64b0 : decide (a2 < a0_3) = Zf := decide_eq_false c64
        clear c64
        obtain ⟨y157, hy157⟩ : ∃ y_ : List (S37), y_ = (([(⟨a0_0, a0_1, a0_2, a0_3⟩ : S37)] : List (S37))) := ⟨_, rfl⟩
        replace H : (some y157) = some r := by first | (rw [hy157]; with_reducible exact H) | (have H2_ := (Option.bind_some _ _).symm.trans H; rw [hy157]; with_reducible exact H2_) | (have H2_ := (Option.bind_some _ _).symm.trans H; with_reducible exact H2_) | with_reducible exact H | (rw [hy157]; exact H) | exact H
        have Ny157 := Za hy157
        clear hy157
        obtain rfl := Option.some.inj H
        have hnb73 := NB144_145.out
        have hnc73 := NB145_144.out
        have hnb74 := NB144_146.out
        have hnc74 := NB146_144.out
        have hcz75_0 : wc.cell? ⟨gb144, 0, none⟩ = some (.int .i64 a0_0) := (Xf BK144.out 0).trans rfl
        have hcz75_1 : wc.cell? ⟨gb144, 1, none⟩ = some (.int .i64 a0_1) := (Xf BK144.out 1).trans rfl
        have hcz75_2 : wc.cell? ⟨gb144, 2, none⟩ = some (.int .i64 a0_2) := (Xf BK144.out 2).trans rfl
        have hcz75_3 : wc.cell? ⟨gb144, 3, none⟩ = some (.int .i64 a0_3) := (Xf BK144.out 3).trans rfl
        have hfz75_0 := Xh BK144.out 0
        have hfz75_1 := Xh BK144.out 1
        have hfz75_2 := Xh BK144.out 2
        have hfz75_3 := Xh BK144.out 3
        go_wp2_with (first | ((with_reducible refine gate_dst (N := 12) rfl ?_); refine Kd.R_lit k37 _ 37 ?hg (N := 12) ?hd (xs := ([(⟨a0_0, a0_1, a0_2, a0_3⟩ : S37)] : List (S37))) (inner := [.int .i64 a0_0, .int .i64 a0_1, .int .i64 a0_2, .int .i64 a0_3]) (ok := fun _ => True) (okp := fun _ => True) ?hr ?hp (fun _ hk => hk) trivial (Below.refl _ _) (Nat.le_refl _) (by simp) ?_; (case hd => rfl); (case hg => rfl); (case hr => first | (go_simp; done) | (go_simp; rfl)); (case hp => exact (Reps.c4 (show Kd.M k37 _ _ _ (⟨a0_0, a0_1, a0_2, a0_3⟩ : S37) [.int .i64 a0_0, .int .i64 a0_1, .int .i64 a0_2, .int .i64 a0_3] from (k37_mkM _ _ _ (⟨a0_0, a0_1, a0_2, a0_3⟩ : S37) )) (Reps.none _ _))); intro v158 w76 ho77 hb hg_ hnew_; clear hg_ hnew_; (first | rw [← Ny157.out] at ho77 | (simp only [Int.reduceToNat] at ho77; rw [← Ny157.out] at ho77)); have n0_ := Za (Kd.R_lower (Kd.R_newB (Kd.R_newB (Kd.R_newB ho77 (g := gb144) (o := .cells #[.int .i64 a0_0, .int .i64 a0_1, .int .i64 a0_2, .int .i64 a0_3] 37 (0, 0)) (bb_7 BK144.out)) (g := gb145) (o := .cells #[.int .i64 a0_0, .int .i64 a0_1, .int .i64 a0_2, .int .i64 a0_3] 37 (0, 0)) (bb_7 BK145.out)) (g := gb146) (o := .cells #[.int .i64 a0_0, .int .i64 a0_1, .int .i64 a0_2, .int .i64 a0_3] 37 (0, 0)) (bb_7 BK146.out)) (Xl (hb_7 HB.out))); have n1_ := Za (Xk (g := gb144) (o := .cells #[.int .i64 a0_0, .int .i64 a0_1, .int .i64 a0_2, .int .i64 a0_3] 37 (0, 0)) (bb_7 BK144.out) hb); have n2_ := Za (Xk (g := gb145) (o := .cells #[.int .i64 a0_0, .int .i64 a0_1, .int .i64 a0_2, .int .i64 a0_3] 37 (0, 0)) (bb_7 BK145.out) hb); have n3_ := Za (Xk (g := gb146) (o := .cells #[.int .i64 a0_0, .int .i64 a0_1, .int .i64 a0_2, .int .i64 a0_3] 37 (0, 0)) (bb_7 BK146.out) hb); have n4_ := Za (below_step (hb_7 HB.out) hb); clear BK144; clear BK145; clear BK146; clear HB; have HO159 := n0_; have BK144 := n1_; have BK145 := n2_; have BK146 := n3_; have HB := n4_; clear n0_ n1_ n2_ n3_ n4_; clear hb ho77))
        go_ret
        exact ⟨_, by first | rfl | (simp [errW_none, errW_some] <;> rfl) | (simp [*, errW_none, errW_some] <;> rfl), by (with_reducible repeat (first | apply Kd.R_alloc | apply Kd.R_drewN | apply Kd.R_drew)); exact Kd.R_mono HO159.out (fun _ hk => trivial), by repeat (first | (with_reducible first | exact HB.out | apply below_alloc | apply pw_below_drewN | apply below_drew1 | refine below_set ?_ GE144.out | refine below_set ?_ GE145.out | refine below_set ?_ GE146.out) | exact HB.out)⟩
      ·rw [if_neg c63] at H
       have c63b0 : decide (a0_1 < a2) = Zf := decide_eq_false c63
       clear c63
       obtain ⟨y160, hy160⟩ : ∃ y_ : List (S37), y_ = (([(⟨a0_0, a0_1, a0_2, a0_3⟩ : S37)] : List (S37))) := ⟨_, rfl⟩
       replace H : (some y160) = some r := by first | (rw [hy160]; with_reducible exact H) | (have H2_ := (Option.bind_some _ _).symm.trans H; rw [hy160]; with_reducible exact H2_) | (have H2_ := (Option.bind_some _ _).symm.trans H; with_reducible exact H2_) | with_reducible exact H | (rw [hy160]; exact H) | exact H
       have Ny160 := Za hy160
       clear hy160
       obtain rfl := Option.some.inj H
       have hnb78 := NB144_145.out
       have hnc78 := NB145_144.out
       have hnb79 := NB144_146.out
       have hnc79 := NB146_144.out
       have hcz80_0 : wc.cell? ⟨gb144, 0, none⟩ = some (.int .i64 a0_0) := (Xf BK144.out 0).trans rfl
       have hcz80_1 : wc.cell? ⟨gb144, 1, none⟩ = some (.int .i64 a0_1) := (Xf BK144.out 1).trans rfl
       have hcz80_2 : wc.cell? ⟨gb144, 2, none⟩ = some (.int .i64 a0_2) := (Xf BK144.out 2).trans rfl
       have hcz80_3 : wc.cell? ⟨gb144, 3, none⟩ = some (.int .i64 a0_3) := (Xf BK144.out 3).trans rfl
       have hfz80_0 := Xh BK144.out 0
       have hfz80_1 := Xh BK144.out 1
       have hfz80_2 := Xh BK144.out 2
       have hfz80_3 := Xh BK144.out 3
       go_wp2_with (first | ((with_reducible refine gate_dst (N := 12) rfl ?_); refine Kd.R_lit k37 _ 37 ?hg (N := 12) ?hd (xs := ([(⟨a0_0, a0_1, a0_2, a0_3⟩ : S37)] : List (S37))) (inner := [.int .i64 a0_0, .int .i64 a0_1, .int .i64 a0_2, .int .i64 a0_3]) (ok := fun _ => True) (okp := fun _ => True) ?hr ?hp (fun _ hk => hk) trivial (Below.refl _ _) (Nat.le_refl _) (by simp) ?_; (case hd => rfl); (case hg => rfl); (case hr => first | (go_simp; done) | (go_simp; rfl)); (case hp => exact (Reps.c4 (show Kd.M k37 _ _ _ (⟨a0_0, a0_1, a0_2, a0_3⟩ : S37) [.int .i64 a0_0, .int .i64 a0_1, .int .i64 a0_2, .int .i64 a0_3] from (k37_mkM _ _ _ (⟨a0_0, a0_1, a0_2, a0_3⟩ : S37) )) (Reps.none _ _))); intro v161 w81 ho82 hb hg_ hnew_; clear hg_ hnew_; (first | rw [← Ny160.out] at ho82 | (simp only [Int.reduceToNat] at ho82; rw [← Ny160.out] at ho82)); have n0_ := Za (Kd.R_lower (Kd.R_newB (Kd.R_newB (Kd.R_newB ho82 (g := gb144) (o := .cells #[.int .i64 a0_0, .int .i64 a0_1, .int .i64 a0_2, .int .i64 a0_3] 37 (0, 0)) (bb_7 BK144.out)) (g := gb145) (o := .cells #[.int .i64 a0_0, .int .i64 a0_1, .int .i64 a0_2, .int .i64 a0_3] 37 (0, 0)) (bb_7 BK145.out)) (g := gb146) (o := .cells #[.int .i64 a0_0, .int .i64 a0_1, .int .i64 a0_2, .int .i64 a0_3] 37 (0, 0)) (bb_7 BK146.out)) (Xl (hb_7 HB.out))); have n1_ := Za (Xk (g := gb144) (o := .cells #[.int .i64 a0_0, .int .i64 a0_1, .int .i64 a0_2, .int .i64 a0_3] 37 (0, 0)) (bb_7 BK144.out) hb); have n2_ := Za (Xk (g := gb145) (o := .cells #[.int .i64 a0_0, .int .i64 a0_1, .int .i64 a0_2, .int .i64 a0_3] 37 (0, 0)) (bb_7 BK145.out) hb); have n3_ := Za (Xk (g := gb146) (o := .cells #[.int .i64 a0_0, .int .i64 a0_1, .int .i64 a0_2, .int .i64 a0_3] 37 (0, 0)) (bb_7 BK146.out) hb); have n4_ := Za (below_step (hb_7 HB.out) hb); clear BK144; clear BK145; clear BK146; clear HB; have HO162 := n0_; have BK144 := n1_; have BK145 := n2_; have BK146 := n3_; have HB := n4_; clear n0_ n1_ n2_ n3_ n4_; clear hb ho82))
       go_ret
       exact ⟨_, by first | rfl | (simp [errW_none, errW_some] <;> rfl) | (simp [*, errW_none, errW_some] <;> rfl), by (with_reducible repeat (first | apply Kd.R_alloc | apply Kd.R_drewN | apply Kd.R_drew)); exact Kd.R_mono HO162.out (fun _ hk => trivial), by repeat (first | (with_reducible first | exact HB.out | apply below_alloc | apply pw_below_drewN | apply below_drew1 | refine below_set ?_ GE144.out | refine below_set ?_ GE145.out | refine below_set ?_ GE146.out) | exact HB.out)⟩

end Go.Proofs.Ythgmjhidigoneaa.PLayerKeeps
