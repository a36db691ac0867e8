import Derived.Test.YthgmjhidigoneaaPLayerKeepsx0
import Derived.Test.YthgmjhidigoneaaPLayerKeepsx4
namespace Go.Proofs.Ythgmjhidigoneaa.PLayerKeeps
open Go.RowKit Go.Proofs.YthgmjhidigoneaaW.PrintWords Go.Proofs.YthgmjhidigoneaaW.PrintLast Go.Proofs.YthgmjhidigoneaaW.PrintMore
open Bool renaming true → Zt, false → Zf
open Go.Proofs.YthgmjhidigoneaaW.PrintWords.Aside0 renaming mk → Za
open List renaming setIfInBounds_toArray → Xa, set_cons_zero → Xb, set_cons_succ → Xc
open Go.Proofs.YthgmjhidigoneaaW.PrintWords renaming blk_cell → Xd, Aside0 → Xe, blk_below → Xf, blk_lt → Xg, below_size → Xi
open Go.Proofs.YthgmjhidigoneaaW.PrintLast renaming putAll → Xh
attribute [local go_sem] max2_int min2_int max_two min_two max_three min_three max_four min_four   -- for this text's walks alone
set_option linter.unusedVariables false
set_option linter.unusedSimpArgs false
theorem bb_5 {p q : Prop} (h : q) (f : q → p := by intro h_; (with_reducible repeat (first | refine blk_drewN ?_ _ | refine blk_drew ?_ | refine blk_alloc ?_ _)); exact h_) : p := f h
theorem hb_5 {B : Nat} {w W W1 : World} (h : Below B w W) (f : Below B w W → Below B w W1 := by intro h_; repeat (first | (with_reducible first | exact h_ | apply below_alloc | apply pw_below_drewN | apply below_drew1 | refine below_set ?_ (Aside0.out (by assumption))) | exact h_)) : Below B w W1 := f h

/-! ### place_Box: function 83 -/
def place_Box.f (k : Nat) (a0_0 : Int) (a0_1 : Int) (a0_2 : Int) (a1_0 : Int) (a1_1 : Int) (a1_2 : Int) (a1_3 : Int) : Option (Int × Int × Int × Int) := (place_Do.f k a0_0 a0_1 a0_2 a1_0 a1_1).bind fun bt129 => ((place_Do.f k a0_0 a0_1 a0_2 a1_2 a1_3).bind fun bt131 => (some (mn bt129.1 bt131.1, mn bt129.2 bt131.2, mx bt129.1 bt131.1, mx bt129.2 bt131.2)))
theorem place_Box.mono : ∀ a0 a1 a2 a3 a4 a5 a6 k, LeO (place_Box.f k a0 a1 a2 a3 a4 a5 a6) (place_Box.f (k + 1) a0 a1 a2 a3 a4 a5 a6) := by
 intro a0 a1 a2 a3 a4 a5 a6 k
 unfold place_Box.f
 repeat' first
   | (with_reducible exact place_Do.mono _ _ _ _ _ _)
   | (with_reducible exact LeO.refl _)
   | (with_reducible exact LeO.none _)
   | (with_reducible refine LeO.ite ?_ ?_)
   | (with_reducible refine LeO.bind ?_ (fun _ => ?_))
   | exact place_Do.mono _ _ _ _ _ _
   | exact LeO.none _
   | refine LeO.ite ?_ ?_
   | refine LeO.bind ?_ (fun _ => ?_)
def place_Box.T1 : Bool × List (List Nat × List Nat) := (Zt, [([], []), ([], []), ([1], [1]), ([], []), ([3], [3]), ([2, 4], [2, 4]), ([0, 5], [0, 5]), ([], []), ([], []), ([8], [8]), ([], []), ([10], [10]), ([9, 11], [9, 11]), ([7, 12, 6], [7, 12]), ([], []), ([], []), ([14, 6, 13, 0, 1, 2, 3, 4, 5, 6, 14, 15], [6, 14]), ([15, 13, 16, 0, 1, 2, 3, 4, 5, 6, 7, 8, 9, 10, 11, 12, 13, 14, 15, 16], [13, 15])])
def place_Box.B1 : List Nat := [0, 0, 2, 0, 8, 30, 63, 0, 0, 256, 0, 1024, 3840, 8191, 0, 0, 65535, 131071]
theorem place_Box.tab1 : rtab .any (opsOf Try.f83 1) = place_Box.T1 := by kernel_rfl
theorem place_Box.bits1 : waitsOk place_Box.T1.2 place_Box.B1 = Zt := by kernel_rfl
set_option maxHeartbeats 8000000 in
set_option maxRecDepth 100000 in
theorem place_Box.calls (k : Nat) (a0_0 : Int) (a0_1 : Int) (a0_2 : Int) (a1_0 : Int) (a1_1 : Int) (a1_2 : Int) (a1_3 : Int) (r1 : Int) (r2 : Int) (r3 : Int) (r4 : Int) (w : World) (h : place_Box.f k a0_0 a0_1 a0_2 a1_0 a1_1 a1_2 a1_3 = some (r1, r2, r3, r4)) :
  Calls Try.prog 83 #[.agg #[.int .i64 a0_0, .int .i64 a0_1, .int .i64 a0_2], .agg #[.int .i64 a1_0, .int .i64 a1_1, .int .i64 a1_2, .int .i64 a1_3]] w fun e w' => e = .returned (.agg #[.int .i64 r1, .int .i64 r2, .int .i64 r3, .int .i64 r4]) ∧ Below w.heap.size w w' := by
 have hu32 := Try.underlying32
 have hu37 := Try.underlying37
 have hu23 := Try.underlying23
 have HB := Za (Below.refl w.heap.size w)
 have H : ((place_Do.f k a0_0 a0_1 a0_2 a1_0 a1_1).bind fun bt129 => ((place_Do.f k a0_0 a0_1 a0_2 a1_2 a1_3).bind fun bt131 => (some (mn bt129.1 bt131.1, mn bt129.2 bt131.2, mx bt129.1 bt131.1, mx bt129.2 bt131.2)))) = some (r1, r2, r3, r4) := h
 clear h
 replace H := Option.bind_eq_some_iff.mp H
 obtain ⟨⟨t129, t130⟩, A30, H⟩ := H
 replace H : ((place_Do.f k a0_0 a0_1 a0_2 a1_2 a1_3).bind fun bt131 => (some (mn t129 bt131.1, mn t130 bt131.2, mx t129 bt131.1, mx t130 bt131.2))) = some (r1, r2, r3, r4) := H
 have A3 := Za A30
 clear A30
 replace H := Option.bind_eq_some_iff.mp H
 obtain ⟨⟨t131, t132⟩, A40, H⟩ := H
 replace H : (some (mn t129 t131, mn t130 t132, mx t129 t131, mx t130 t132)) = some (r1, r2, r3, r4) := H
 have A4 := Za A40
 clear A40
 obtain ⟨ji5, hji5⟩ : ∃ j_ : Int, (mn t129 t131) = j_ := ⟨_, rfl⟩
 replace H : (some (ji5, mn t130 t132, mx t129 t131, mx t130 t132)) = some (r1, r2, r3, r4) := by first | (rw [hji5] at H; exact H) | (simp only [hji5] at H ⊢; exact H)
 (try rw [hji5] at A3)
 (try rw [hji5] at A4)
 have hji5_ : (if t131 < t129 then t131 else t129) = ji5 := hji5
 obtain ⟨ji6, hji6⟩ : ∃ j_ : Int, (mn t130 t132) = j_ := ⟨_, rfl⟩
 replace H : (some (ji5, ji6, mx t129 t131, mx t130 t132)) = some (r1, r2, r3, r4) := by first | (rw [hji6] at H; exact H) | (simp only [hji6] at H ⊢; exact H)
 (try rw [hji6] at A3)
 (try rw [hji6] at A4)
 have hji6_ : (if t132 < t130 then t132 else t130) = ji6 := hji6
 obtain ⟨ji7, hji7⟩ : ∃ j_ : Int, (mx t129 t131) = j_ := ⟨_, rfl⟩
 replace H : (some (ji5, ji6, ji7, mx t130 t132)) = some (r1, r2, r3, r4) := by first | (rw [hji7] at H; exact H) | (simp only [hji7] at H ⊢; exact H)
 (try rw [hji7] at A3)
 (try rw [hji7] at A4)
 have hji7_ : (if t129 < t131 then t131 else t129) = ji7 := hji7
 obtain ⟨ji8, hji8⟩ : ∃ j_ : Int, (mx t130 t132) = j_ := ⟨_, rfl⟩
 replace H : (some (ji5, ji6, ji7, ji8)) = some (r1, r2, r3, r4) := by first | (rw [hji8] at H; exact H) | (simp only [hji8] at H ⊢; exact H)
 (try rw [hji8] at A3)
 (try rw [hji8] at A4)
 have hji8_ : (if t130 < t132 then t132 else t130) = ji8 := hji8
 simp only [Option.some.injEq, Prod.mk.injEq] at H
 obtain ⟨rfl, rfl, rfl, rfl⟩ := H
 go_enter Try.func83, Try.ntmps83
 try go_wp2_with (first | ((with_reducible refine gate_dst (N := 2) rfl ?_); refine box_event ?hg (N := 2) ?hd (cs := #[.int .i64 a0_0, .int .i64 a0_1, .int .i64 a0_2]) (t := 32) ?hr ?_; (case hd => rfl); (case hg => rfl); (case hr => first | (go_simp; done) | (go_simp; rfl)); intro gb126 hg w9 hbox hb; have n0_ := Za (below_step (hb_5 HB.out) hb); have n1_ := Za (hbox); have n2_ := Za ((by rw [hg]; exact (Xi (hb_5 HB.out)) : w.heap.size ≤ gb126)); have n3_ := Za ((by rw [hg]; exact (Xi (hb_5 HB.out)) : w.heap.size ≤ gb126)); clear HB; have HB := n0_; have BK126 := n1_; have GW126 := n2_; have GE126 := n3_; clear n0_ n1_ n2_ n3_; clear hb hbox hg) | ((with_reducible refine gate_dst (N := 3) rfl ?_); refine box_event ?hg (N := 3) ?hd (cs := #[.int .i64 a1_0, .int .i64 a1_1, .int .i64 a1_2, .int .i64 a1_3]) (t := 37) ?hr ?_; (case hd => rfl); (case hg => rfl); (case hr => first | (go_simp; done) | (go_simp; rfl)); intro gb127 hg w10 hbox hb; have n0_ := Za (Xf (g := gb126) (o := .cells #[.int .i64 a0_0, .int .i64 a0_1, .int .i64 a0_2] 32 (0, 0)) (bb_5 BK126.out) hb); have n1_ := Za (below_step (hb_5 HB.out) hb); have n2_ := Za (hbox); have n3_ := Za ((by rw [hg]; exact (Xi (hb_5 HB.out)) : w.heap.size ≤ gb127)); have n4_ := Za ((by rw [hg]; exact (Xi (hb_5 HB.out)) : w.heap.size ≤ gb127)); have n5_ := Za ((by rw [hg]; exact Nat.ne_of_lt (Xg (g := gb126) (o := .cells #[.int .i64 a0_0, .int .i64 a0_1, .int .i64 a0_2] 32 (0, 0)) (bb_5 BK126.out)) : gb126 ≠ gb127)); have n6_ := Za ((by rw [hg]; exact Nat.ne_of_gt (Xg (g := gb126) (o := .cells #[.int .i64 a0_0, .int .i64 a0_1, .int .i64 a0_2] 32 (0, 0)) (bb_5 BK126.out)) : gb127 ≠ gb126)); clear BK126; clear HB; have BK126 := n0_; have HB := n1_; have BK127 := n2_; have GW127 := n3_; have GE127 := n4_; have NB126_127 := n5_; have NB127_126 := n6_; clear n0_ n1_ n2_ n3_ n4_ n5_ n6_; clear hb hbox hg) | ((with_reducible refine gate_dst (N := 4) rfl ?_); refine box_event ?hg (N := 4) ?hd (cs := #[.int .i64 0, .int .i64 0, .int .i64 0, .int .i64 0]) (t := 37) ?hr ?_; (case hd => rfl); (case hg => rfl); (case hr => first | (go_simp; done) | (go_simp; rfl)); intro gb128 hg w11 hbox hb; have n0_ := Za (Xf (g := gb126) (o := .cells #[.int .i64 a0_0, .int .i64 a0_1, .int .i64 a0_2] 32 (0, 0)) (bb_5 BK126.out) hb); have n1_ := Za (Xf (g := gb127) (o := .cells #[.int .i64 a1_0, .int .i64 a1_1, .int .i64 a1_2, .int .i64 a1_3] 37 (0, 0)) (bb_5 BK127.out) hb); have n2_ := Za (below_step (hb_5 HB.out) hb); have n3_ := Za (hbox); have n4_ := Za ((by rw [hg]; exact (Xi (hb_5 HB.out)) : w.heap.size ≤ gb128)); have n5_ := Za ((by rw [hg]; exact (Xi (hb_5 HB.out)) : w.heap.size ≤ gb128)); have n6_ := Za ((by rw [hg]; exact Nat.ne_of_lt (Xg (g := gb126) (o := .cells #[.int .i64 a0_0, .int .i64 a0_1, .int .i64 a0_2] 32 (0, 0)) (bb_5 BK126.out)) : gb126 ≠ gb128)); have n7_ := Za ((by rw [hg]; exact Nat.ne_of_gt (Xg (g := gb126) (o := .cells #[.int .i64 a0_0, .int .i64 a0_1, .int .i64 a0_2] 32 (0, 0)) (bb_5 BK126.out)) : gb128 ≠ gb126)); have n8_ := Za ((by rw [hg]; exact Nat.ne_of_lt (Xg (g := gb127) (o := .cells #[.int .i64 a1_0, .int .i64 a1_1, .int .i64 a1_2, .int .i64 a1_3] 37 (0, 0)) (bb_5 BK127.out)) : gb127 ≠ gb128)); have n9_ := Za ((by rw [hg]; exact Nat.ne_of_gt (Xg (g := gb127) (o := .cells #[.int .i64 a1_0, .int .i64 a1_1, .int .i64 a1_2, .int .i64 a1_3] 37 (0, 0)) (bb_5 BK127.out)) : gb128 ≠ gb127)); clear BK126; clear BK127; clear HB; have BK126 := n0_; have BK127 := n1_; have HB := n2_; have BK128 := n3_; have GW128 := n4_; have GE128 := n5_; have NB126_128 := n6_; have NB128_126 := n7_; have NB127_128 := n8_; have NB128_127 := n9_; clear n0_ n1_ n2_ n3_ n4_ n5_ n6_ n7_ n8_ n9_; clear hb hbox hg))
 have n0_ := Za (blk_drew BK126.out)
 have n1_ := Za (blk_drew BK127.out)
 have n2_ := Za (blk_drew BK128.out)
 have n3_ := Za (below_drew1 HB.out)
 clear BK126
 clear BK127
 clear BK128
 clear HB
 have BK126 := n0_
 have BK127 := n1_
 have BK128 := n2_
 have HB := n3_
 clear n0_ n1_ n2_ n3_
 refine start_ (n := 18) (S := fun w' => w'.cell? ⟨gb126, 0, none⟩ = some (.int .i64 a0_0) ∧ w'.cell? ⟨gb126, 1, none⟩ = some (.int .i64 a0_1) ∧ w'.cell? ⟨gb126, 2, none⟩ = some (.int .i64 a0_2) ∧ w'.cell? ⟨gb127, 0, none⟩ = some (.int .i64 a1_0) ∧ w'.cell? ⟨gb127, 1, none⟩ = some (.int .i64 a1_1) ∧ w'.cell? ⟨gb127, 2, none⟩ = some (.int .i64 a1_2) ∧ w'.cell? ⟨gb127, 3, none⟩ = some (.int .i64 a1_3)) (ds := []) #[Zf,Zf,Zf,Zf,Zf,Zf,Zf,Zf,Zf,Zf,Zf,Zf,Zf,Zf,Zf,Zf,Zf,Zf] (by kernel_rfl) rfl rfl ⟨(Xd BK126.out 0).trans rfl, (Xd BK126.out 1).trans rfl, (Xd BK126.out 2).trans rfl, (Xd BK127.out 0).trans rfl, (Xd BK127.out 1).trans rfl, (Xd BK127.out 2).trans rfl, (Xd BK127.out 3).trans rfl⟩ (fun hHeld => ?_); refine with_tabW place_Box.tab1 place_Box.bits1 (fun HT_ HW_ => ?_)
 generalize w11.drew = w12 at BK126 BK127 BK128 HB hHeld ⊢
 refine pure_ (i := 1) (N := some 8) (v := ?_) (a' := ?_) #[Zf,Zt,Zf,Zf,Zf,Zf,Zf,Zf,Zf,Zf,Zf,Zf,Zf,Zf,Zf,Zf,Zf,Zf] rfl rfl (any_of HT_.out (by kernel_rfl)) (fun _ _ _ h => h) (Or.inl ⟨by rfl, ?_⟩) ?_ ?_
 rotate_left
 ·intro w'
  go_simp
  with_reducible rfl
 rotate_left
 ·simp only [Act.put, Xa, Xb, Xc, i64_w, i32_w]
  rfl
 refine pure_ (i := 3) (N := some 10) (v := ?_) (a' := ?_) #[Zf,Zt,Zf,Zt,Zf,Zf,Zf,Zf,Zf,Zf,Zf,Zf,Zf,Zf,Zf,Zf,Zf,Zf] rfl rfl (any_of HT_.out (by kernel_rfl)) (fun _ _ _ h => h) (Or.inl ⟨by rfl, ?_⟩) ?_ ?_
 rotate_left
 ·intro w'
  go_simp
  with_reducible rfl
 rotate_left
 ·simp only [Act.put, Xa, Xb, Xc, i64_w, i32_w]
  rfl
 refine pure_ (i := 8) (N := some 15) (v := ?_) (a' := ?_) #[Zf,Zt,Zf,Zt,Zf,Zf,Zf,Zf,Zt,Zf,Zf,Zf,Zf,Zf,Zf,Zf,Zf,Zf] rfl rfl (any_of HT_.out (by kernel_rfl)) (fun _ _ _ h => h) (Or.inl ⟨by rfl, ?_⟩) ?_ ?_
 rotate_left
 ·intro w'
  go_simp
  with_reducible rfl
 rotate_left
 ·simp only [Act.put, Xa, Xb, Xc, i64_w, i32_w]
  rfl
 refine pure_ (i := 10) (N := some 17) (v := ?_) (a' := ?_) #[Zf,Zt,Zf,Zt,Zf,Zf,Zf,Zf,Zt,Zf,Zt,Zf,Zf,Zf,Zf,Zf,Zf,Zf] rfl rfl (any_of HT_.out (by kernel_rfl)) (fun _ _ _ h => h) (Or.inl ⟨by rfl, ?_⟩) ?_ ?_
 rotate_left
 ·intro w'
  go_simp
  with_reducible rfl
 rotate_left
 ·simp only [Act.put, Xa, Xb, Xc, i64_w, i32_w]
  rfl
 refine take_ (i := 0) (N := some 7) (v := ?_) (a' := ?_) #[Zt,Zt,Zf,Zt,Zf,Zf,Zf,Zf,Zt,Zf,Zt,Zf,Zf,Zf,Zf,Zf,Zf,Zf] rfl rfl (take_ofW HT_.out HW_.out (by kernel_rfl)) (fun _ _ _ h => h) (Or.inl ⟨by rfl, ?_⟩) hHeld ?_ ?_
 rotate_left
 ·rintro w' ⟨s0, s1, s2, s3, s4, s5, s6⟩
  go_simp
  with_reducible rfl
 rotate_left
 ·simp only [Act.put, Xa, Xb, Xc, i64_w, i32_w]
  rfl
 refine take_ (i := 2) (N := some 9) (v := ?_) (a' := ?_) #[Zt,Zt,Zt,Zt,Zf,Zf,Zf,Zf,Zt,Zf,Zt,Zf,Zf,Zf,Zf,Zf,Zf,Zf] rfl rfl (take_ofW HT_.out HW_.out (by kernel_rfl)) (fun _ _ _ h => h) (Or.inl ⟨by rfl, ?_⟩) hHeld ?_ ?_
 rotate_left
 ·rintro w' ⟨s0, s1, s2, s3, s4, s5, s6⟩
  go_simp
  with_reducible rfl
 rotate_left
 ·simp only [Act.put, Xa, Xb, Xc, i64_w, i32_w]
  rfl
 refine take_ (i := 4) (N := some 11) (v := ?_) (a' := ?_) #[Zt,Zt,Zt,Zt,Zt,Zf,Zf,Zf,Zt,Zf,Zt,Zf,Zf,Zf,Zf,Zf,Zf,Zf] rfl rfl (take_ofW HT_.out HW_.out (by kernel_rfl)) (fun _ _ _ h => h) (Or.inl ⟨by rfl, ?_⟩) hHeld ?_ ?_
 rotate_left
 ·rintro w' ⟨s0, s1, s2, s3, s4, s5, s6⟩
  go_simp
  with_reducible rfl
 rotate_left
 ·simp only [Act.put, Xa, Xb, Xc, i64_w, i32_w]
  rfl
 refine pure_ (i := 5) (N := some 12) (v := ?_) (a' := ?_) #[Zt,Zt,Zt,Zt,Zt,Zt,Zf,Zf,Zt,Zf,Zt,Zf,Zf,Zf,Zf,Zf,Zf,Zf] rfl rfl (any_of HT_.out (by kernel_rfl)) (fun _ _ _ h => h) (Or.inl ⟨by rfl, ?_⟩) ?_ ?_
 rotate_left
 ·intro w'
  go_simp
  with_reducible rfl
 rotate_left
 ·simp only [Act.put, Xa, Xb, Xc, i64_w, i32_w]
  rfl
 refine take_ (i := 7) (N := some 14) (v := ?_) (a' := ?_) #[Zt,Zt,Zt,Zt,Zt,Zt,Zf,Zt,Zt,Zf,Zt,Zf,Zf,Zf,Zf,Zf,Zf,Zf] rfl rfl (take_ofW HT_.out HW_.out (by kernel_rfl)) (fun _ _ _ h => h) (Or.inl ⟨by rfl, ?_⟩) hHeld ?_ ?_
 rotate_left
 ·rintro w' ⟨s0, s1, s2, s3, s4, s5, s6⟩
  go_simp
  with_reducible rfl
 rotate_left
 ·simp only [Act.put, Xa, Xb, Xc, i64_w, i32_w]
  rfl
 refine take_ (i := 9) (N := some 16) (v := ?_) (a' := ?_) #[Zt,Zt,Zt,Zt,Zt,Zt,Zf,Zt,Zt,Zt,Zt,Zf,Zf,Zf,Zf,Zf,Zf,Zf] rfl rfl (take_ofW HT_.out HW_.out (by kernel_rfl)) (fun _ _ _ h => h) (Or.inl ⟨by rfl, ?_⟩) hHeld ?_ ?_
 rotate_left
 ·rintro w' ⟨s0, s1, s2, s3, s4, s5, s6⟩
  go_simp
  with_reducible rfl
 rotate_left
 ·simp only [Act.put, Xa, Xb, Xc, i64_w, i32_w]
  rfl
 refine take_ (i := 11) (N := some 18) (v := ?_) (a' := ?_) #[Zt,Zt,Zt,Zt,Zt,Zt,Zf,Zt,Zt,Zt,Zt,Zt,Zf,Zf,Zf,Zf,Zf,Zf] rfl rfl (take_ofW HT_.out HW_.out (by kernel_rfl)) (fun _ _ _ h => h) (Or.inl ⟨by rfl, ?_⟩) hHeld ?_ ?_
 rotate_left
 ·rintro w' ⟨s0, s1, s2, s3, s4, s5, s6⟩
  go_simp
  with_reducible rfl
 rotate_left
 ·simp only [Act.put, Xa, Xb, Xc, i64_w, i32_w]
  rfl
 refine pure_ (i := 12) (N := some 19) (v := ?_) (a' := ?_) #[Zt,Zt,Zt,Zt,Zt,Zt,Zf,Zt,Zt,Zt,Zt,Zt,Zt,Zf,Zf,Zf,Zf,Zf] rfl rfl (any_of HT_.out (by kernel_rfl)) (fun _ _ _ h => h) (Or.inl ⟨by rfl, ?_⟩) ?_ ?_
 rotate_left
 ·intro w'
  go_simp
  with_reducible rfl
 rotate_left
 ·simp only [Act.put, Xa, Xb, Xc, i64_w, i32_w]
  rfl
 refine join_ (σ := Nat × Nat) 2 #[Zt,Zt,Zt,Zt,Zt,Zt,Zt,Zt,Zt,Zt,Zt,Zt,Zt,Zt,Zt,Zt,Zf,Zf] (fun s_ => [(13, .agg #[.int .i64 t129, .int .i64 t130]), (20, .agg #[.int .i64 t131, .int .i64 t132]), (5, .pointer (some ⟨s_.1, 0, none⟩)), (6, .pointer (some ⟨s_.2, 0, none⟩))]) (fun s_ w' => (w'.cell? ⟨gb126, 0, none⟩ = some (.int .i64 a0_0) ∧ w'.cell? ⟨gb126, 1, none⟩ = some (.int .i64 a0_1) ∧ w'.cell? ⟨gb126, 2, none⟩ = some (.int .i64 a0_2) ∧ w'.cell? ⟨gb127, 0, none⟩ = some (.int .i64 a1_0) ∧ w'.cell? ⟨gb127, 1, none⟩ = some (.int .i64 a1_1) ∧ w'.cell? ⟨gb127, 2, none⟩ = some (.int .i64 a1_2) ∧ w'.cell? ⟨gb127, 3, none⟩ = some (.int .i64 a1_3)) ∧ (w'.heap[gb126]? = some (.cells #[.int .i64 a0_0, .int .i64 a0_1, .int .i64 a0_2] 32 (0, 0))) ∧ (w'.heap[gb127]? = some (.cells #[.int .i64 a1_0, .int .i64 a1_1, .int .i64 a1_2, .int .i64 a1_3] 37 (0, 0))) ∧ (w'.heap[gb128]? = some (.cells #[.int .i64 0, .int .i64 0, .int .i64 0, .int .i64 0] 37 (0, 0))) ∧ (w'.heap[s_.1]? = some (.cells #[.int .i64 0, .int .i64 0] 23 (0, 0))) ∧ (w'.heap[s_.2]? = some (.cells #[.int .i64 0, .int .i64 0] 23 (0, 0))) ∧ (w.heap.size ≤ s_.1) ∧ (w.heap.size ≤ s_.1) ∧ (gb126 ≠ s_.1) ∧ (s_.1 ≠ gb126) ∧ (gb127 ≠ s_.1) ∧ (s_.1 ≠ gb127) ∧ (gb128 ≠ s_.1) ∧ (s_.1 ≠ gb128) ∧ (s_.2 ≠ s_.1) ∧ (s_.1 ≠ s_.2) ∧ (w.heap.size ≤ s_.2) ∧ (w.heap.size ≤ s_.2) ∧ (gb126 ≠ s_.2) ∧ (s_.2 ≠ gb126) ∧ (gb127 ≠ s_.2) ∧ (s_.2 ≠ gb127) ∧ (gb128 ≠ s_.2) ∧ (s_.2 ≠ gb128) ∧ (Below w.heap.size w w')) ?_ ?_
 rotate_left
 ·intro hJ6_13_14_15
  refine join_ (σ := Nat) 3 #[Zt,Zt,Zt,Zt,Zt,Zt,Zt,Zt,Zt,Zt,Zt,Zt,Zt,Zt,Zt,Zf,Zf,Zf] (fun s_ => [(13, .agg #[.int .i64 t129, .int .i64 t130]), (20, .agg #[.int .i64 t131, .int .i64 t132]), (5, .pointer (some ⟨s_, 0, none⟩))]) (fun s_ w' => (w'.cell? ⟨gb126, 0, none⟩ = some (.int .i64 a0_0) ∧ w'.cell? ⟨gb126, 1, none⟩ = some (.int .i64 a0_1) ∧ w'.cell? ⟨gb126, 2, none⟩ = some (.int .i64 a0_2) ∧ w'.cell? ⟨gb127, 0, none⟩ = some (.int .i64 a1_0) ∧ w'.cell? ⟨gb127, 1, none⟩ = some (.int .i64 a1_1) ∧ w'.cell? ⟨gb127, 2, none⟩ = some (.int .i64 a1_2) ∧ w'.cell? ⟨gb127, 3, none⟩ = some (.int .i64 a1_3)) ∧ (w'.heap[gb126]? = some (.cells #[.int .i64 a0_0, .int .i64 a0_1, .int .i64 a0_2] 32 (0, 0))) ∧ (w'.heap[gb127]? = some (.cells #[.int .i64 a1_0, .int .i64 a1_1, .int .i64 a1_2, .int .i64 a1_3] 37 (0, 0))) ∧ (w'.heap[gb128]? = some (.cells #[.int .i64 0, .int .i64 0, .int .i64 0, .int .i64 0] 37 (0, 0))) ∧ (w'.heap[s_]? = some (.cells #[.int .i64 0, .int .i64 0] 23 (0, 0))) ∧ (w.heap.size ≤ s_) ∧ (w.heap.size ≤ s_) ∧ (gb126 ≠ s_) ∧ (s_ ≠ gb126) ∧ (gb127 ≠ s_) ∧ (s_ ≠ gb127) ∧ (gb128 ≠ s_) ∧ (s_ ≠ gb128) ∧ (Below w.heap.size w w')) ?_ ?_
  rotate_left
  ·intro hJ6_13_14
   refine join_ (σ := Nat) 3 #[Zt,Zt,Zt,Zt,Zt,Zt,Zt,Zt,Zt,Zt,Zt,Zt,Zt,Zt,Zf,Zt,Zf,Zf] (fun s_ => [(13, .agg #[.int .i64 t129, .int .i64 t130]), (20, .agg #[.int .i64 t131, .int .i64 t132]), (6, .pointer (some ⟨s_, 0, none⟩))]) (fun s_ w' => (w'.cell? ⟨gb126, 0, none⟩ = some (.int .i64 a0_0) ∧ w'.cell? ⟨gb126, 1, none⟩ = some (.int .i64 a0_1) ∧ w'.cell? ⟨gb126, 2, none⟩ = some (.int .i64 a0_2) ∧ w'.cell? ⟨gb127, 0, none⟩ = some (.int .i64 a1_0) ∧ w'.cell? ⟨gb127, 1, none⟩ = some (.int .i64 a1_1) ∧ w'.cell? ⟨gb127, 2, none⟩ = some (.int .i64 a1_2) ∧ w'.cell? ⟨gb127, 3, none⟩ = some (.int .i64 a1_3)) ∧ (w'.heap[gb126]? = some (.cells #[.int .i64 a0_0, .int .i64 a0_1, .int .i64 a0_2] 32 (0, 0))) ∧ (w'.heap[gb127]? = some (.cells #[.int .i64 a1_0, .int .i64 a1_1, .int .i64 a1_2, .int .i64 a1_3] 37 (0, 0))) ∧ (w'.heap[gb128]? = some (.cells #[.int .i64 0, .int .i64 0, .int .i64 0, .int .i64 0] 37 (0, 0))) ∧ (w'.heap[s_]? = some (.cells #[.int .i64 0, .int .i64 0] 23 (0, 0))) ∧ (w.heap.size ≤ s_) ∧ (w.heap.size ≤ s_) ∧ (gb126 ≠ s_) ∧ (s_ ≠ gb126) ∧ (gb127 ≠ s_) ∧ (s_ ≠ gb127) ∧ (gb128 ≠ s_) ∧ (s_ ≠ gb128) ∧ (Below w.heap.size w w')) ?_ ?_
   rotate_left
   ·intro hJ6_13_15
    refine join_ (σ := Nat × Nat) 3 #[Zt,Zt,Zt,Zt,Zt,Zt,Zt,Zt,Zt,Zt,Zt,Zt,Zt,Zf,Zt,Zt,Zf,Zf] (fun s_ => [(13, .agg #[.int .i64 t129, .int .i64 t130]), (5, .pointer (some ⟨s_.1, 0, none⟩)), (6, .pointer (some ⟨s_.2, 0, none⟩))]) (fun s_ w' => (w'.cell? ⟨gb126, 0, none⟩ = some (.int .i64 a0_0) ∧ w'.cell? ⟨gb126, 1, none⟩ = some (.int .i64 a0_1) ∧ w'.cell? ⟨gb126, 2, none⟩ = some (.int .i64 a0_2) ∧ w'.cell? ⟨gb127, 0, none⟩ = some (.int .i64 a1_0) ∧ w'.cell? ⟨gb127, 1, none⟩ = some (.int .i64 a1_1) ∧ w'.cell? ⟨gb127, 2, none⟩ = some (.int .i64 a1_2) ∧ w'.cell? ⟨gb127, 3, none⟩ = some (.int .i64 a1_3)) ∧ (w'.heap[gb126]? = some (.cells #[.int .i64 a0_0, .int .i64 a0_1, .int .i64 a0_2] 32 (0, 0))) ∧ (w'.heap[gb127]? = some (.cells #[.int .i64 a1_0, .int .i64 a1_1, .int .i64 a1_2, .int .i64 a1_3] 37 (0, 0))) ∧ (w'.heap[gb128]? = some (.cells #[.int .i64 0, .int .i64 0, .int .i64 0, .int .i64 0] 37 (0, 0))) ∧ (w'.heap[s_.1]? = some (.cells #[.int .i64 0, .int .i64 0] 23 (0, 0))) ∧ (w'.heap[s_.2]? = some (.cells #[.int .i64 0, .int .i64 0] 23 (0, 0))) ∧ (w.heap.size ≤ s_.1) ∧ (w.heap.size ≤ s_.1) ∧ (gb126 ≠ s_.1) ∧ (s_.1 ≠ gb126) ∧ (gb127 ≠ s_.1) ∧ (s_.1 ≠ gb127) ∧ (gb128 ≠ s_.1) ∧ (s_.1 ≠ gb128) ∧ (s_.2 ≠ s_.1) ∧ (s_.1 ≠ s_.2) ∧ (w.heap.size ≤ s_.2) ∧ (w.heap.size ≤ s_.2) ∧ (gb126 ≠ s_.2) ∧ (s_.2 ≠ gb126) ∧ (gb127 ≠ s_.2) ∧ (s_.2 ≠ gb127) ∧ (gb128 ≠ s_.2) ∧ (s_.2 ≠ gb128) ∧ (Below w.heap.size w w')) ?_ ?_
    rotate_left
    ·intro hJ6_14_15
     refine join_ (σ := Unit) 4 #[Zt,Zt,Zt,Zt,Zt,Zt,Zt,Zt,Zt,Zt,Zt,Zt,Zt,Zt,Zf,Zf,Zf,Zf] (fun s_ => [(13, .agg #[.int .i64 t129, .int .i64 t130]), (20, .agg #[.int .i64 t131, .int .i64 t132])]) (fun s_ w' => (w'.cell? ⟨gb126, 0, none⟩ = some (.int .i64 a0_0) ∧ w'.cell? ⟨gb126, 1, none⟩ = some (.int .i64 a0_1) ∧ w'.cell? ⟨gb126, 2, none⟩ = some (.int .i64 a0_2) ∧ w'.cell? ⟨gb127, 0, none⟩ = some (.int .i64 a1_0) ∧ w'.cell? ⟨gb127, 1, none⟩ = some (.int .i64 a1_1) ∧ w'.cell? ⟨gb127, 2, none⟩ = some (.int .i64 a1_2) ∧ w'.cell? ⟨gb127, 3, none⟩ = some (.int .i64 a1_3)) ∧ (w'.heap[gb126]? = some (.cells #[.int .i64 a0_0, .int .i64 a0_1, .int .i64 a0_2] 32 (0, 0))) ∧ (w'.heap[gb127]? = some (.cells #[.int .i64 a1_0, .int .i64 a1_1, .int .i64 a1_2, .int .i64 a1_3] 37 (0, 0))) ∧ (w'.heap[gb128]? = some (.cells #[.int .i64 0, .int .i64 0, .int .i64 0, .int .i64 0] 37 (0, 0))) ∧ (Below w.heap.size w w')) ?_ ?_
     rotate_left
     ·intro hJ6_13
      refine join_ (σ := Nat) 4 #[Zt,Zt,Zt,Zt,Zt,Zt,Zt,Zt,Zt,Zt,Zt,Zt,Zt,Zf,Zt,Zf,Zf,Zf] (fun s_ => [(13, .agg #[.int .i64 t129, .int .i64 t130]), (5, .pointer (some ⟨s_, 0, none⟩))]) (fun s_ w' => (w'.cell? ⟨gb126, 0, none⟩ = some (.int .i64 a0_0) ∧ w'.cell? ⟨gb126, 1, none⟩ = some (.int .i64 a0_1) ∧ w'.cell? ⟨gb126, 2, none⟩ = some (.int .i64 a0_2) ∧ w'.cell? ⟨gb127, 0, none⟩ = some (.int .i64 a1_0) ∧ w'.cell? ⟨gb127, 1, none⟩ = some (.int .i64 a1_1) ∧ w'.cell? ⟨gb127, 2, none⟩ = some (.int .i64 a1_2) ∧ w'.cell? ⟨gb127, 3, none⟩ = some (.int .i64 a1_3)) ∧ (w'.heap[gb126]? = some (.cells #[.int .i64 a0_0, .int .i64 a0_1, .int .i64 a0_2] 32 (0, 0))) ∧ (w'.heap[gb127]? = some (.cells #[.int .i64 a1_0, .int .i64 a1_1, .int .i64 a1_2, .int .i64 a1_3] 37 (0, 0))) ∧ (w'.heap[gb128]? = some (.cells #[.int .i64 0, .int .i64 0, .int .i64 0, .int .i64 0] 37 (0, 0))) ∧ (w'.heap[s_]? = some (.cells #[.int .i64 0, .int .i64 0] 23 (0, 0))) ∧ (w.heap.size ≤ s_) ∧ (w.heap.size ≤ s_) ∧ (gb126 ≠ s_) ∧ (s_ ≠ gb126) ∧ (gb127 ≠ s_) ∧ (s_ ≠ gb127) ∧ (gb128 ≠ s_) ∧ (s_ ≠ gb128) ∧ (Below w.heap.size w w')) ?_ ?_
      rotate_left
      ·intro hJ6_14
       refine join_ (σ := Nat) 4 #[Zt,Zt,Zt,Zt,Zt,Zt,Zt,Zt,Zt,Zt,Zt,Zt,Zt,Zf,Zf,Zt,Zf,Zf] (fun s_ => [(13, .agg #[.int .i64 t129, .int .i64 t130]), (6, .pointer (some ⟨s_, 0, none⟩))]) (fun s_ w' => (w'.cell? ⟨gb126, 0, none⟩ = some (.int .i64 a0_0) ∧ w'.cell? ⟨gb126, 1, none⟩ = some (.int .i64 a0_1) ∧ w'.cell? ⟨gb126, 2, none⟩ = some (.int .i64 a0_2) ∧ w'.cell? ⟨gb127, 0, none⟩ = some (.int .i64 a1_0) ∧ w'.cell? ⟨gb127, 1, none⟩ = some (.int .i64 a1_1) ∧ w'.cell? ⟨gb127, 2, none⟩ = some (.int .i64 a1_2) ∧ w'.cell? ⟨gb127, 3, none⟩ = some (.int .i64 a1_3)) ∧ (w'.heap[gb126]? = some (.cells #[.int .i64 a0_0, .int .i64 a0_1, .int .i64 a0_2] 32 (0, 0))) ∧ (w'.heap[gb127]? = some (.cells #[.int .i64 a1_0, .int .i64 a1_1, .int .i64 a1_2, .int .i64 a1_3] 37 (0, 0))) ∧ (w'.heap[gb128]? = some (.cells #[.int .i64 0, .int .i64 0, .int .i64 0, .int .i64 0] 37 (0, 0))) ∧ (w'.heap[s_]? = some (.cells #[.int .i64 0, .int .i64 0] 23 (0, 0))) ∧ (w.heap.size ≤ s_) ∧ (w.heap.size ≤ s_) ∧ (gb126 ≠ s_) ∧ (s_ ≠ gb126) ∧ (gb127 ≠ s_) ∧ (s_ ≠ gb127) ∧ (gb128 ≠ s_) ∧ (s_ ≠ gb128) ∧ (Below w.heap.size w w')) ?_ ?_
       rotate_left
       ·intro hJ6_15
        refine join_ (σ := Nat × Nat) 4 #[Zt,Zt,Zt,Zt,Zt,Zt,Zf,Zt,Zt,Zt,Zt,Zt,Zt,Zf,Zt,Zt,Zf,Zf] (fun s_ => [(5, .pointer (some ⟨s_.1, 0, none⟩)), (6, .pointer (some ⟨s_.2, 0, none⟩))]) (fun s_ w' => (w'.cell? ⟨gb126, 0, none⟩ = some (.int .i64 a0_0) ∧ w'.cell? ⟨gb126, 1, none⟩ = some (.int .i64 a0_1) ∧ w'.cell? ⟨gb126, 2, none⟩ = some (.int .i64 a0_2) ∧ w'.cell? ⟨gb127, 0, none⟩ = some (.int .i64 a1_0) ∧ w'.cell? ⟨gb127, 1, none⟩ = some (.int .i64 a1_1) ∧ w'.cell? ⟨gb127, 2, none⟩ = some (.int .i64 a1_2) ∧ w'.cell? ⟨gb127, 3, none⟩ = some (.int .i64 a1_3)) ∧ (w'.heap[gb126]? = some (.cells #[.int .i64 a0_0, .int .i64 a0_1, .int .i64 a0_2] 32 (0, 0))) ∧ (w'.heap[gb127]? = some (.cells #[.int .i64 a1_0, .int .i64 a1_1, .int .i64 a1_2, .int .i64 a1_3] 37 (0, 0))) ∧ (w'.heap[gb128]? = some (.cells #[.int .i64 0, .int .i64 0, .int .i64 0, .int .i64 0] 37 (0, 0))) ∧ (w'.heap[s_.1]? = some (.cells #[.int .i64 0, .int .i64 0] 23 (0, 0))) ∧ (w'.heap[s_.2]? = some (.cells #[.int .i64 0, .int .i64 0] 23 (0, 0))) ∧ (w.heap.size ≤ s_.1) ∧ (w.heap.size ≤ s_.1) ∧ (gb126 ≠ s_.1) ∧ (s_.1 ≠ gb126) ∧ (gb127 ≠ s_.1) ∧ (s_.1 ≠ gb127) ∧ (gb128 ≠ s_.1) ∧ (s_.1 ≠ gb128) ∧ (s_.2 ≠ s_.1) ∧ (s_.1 ≠ s_.2) ∧ (w.heap.size ≤ s_.2) ∧ (w.heap.size ≤ s_.2) ∧ (gb126 ≠ s_.2) ∧ (s_.2 ≠ gb126) ∧ (gb127 ≠ s_.2) ∧ (s_.2 ≠ gb127) ∧ (gb128 ≠ s_.2) ∧ (s_.2 ≠ gb128) ∧ (Below w.heap.size w w')) ?_ ?_
        rotate_left
        ·intro hJ14_15
         refine join_ (σ := Unit) 5 #[Zt,Zt,Zt,Zt,Zt,Zt,Zt,Zt,Zt,Zt,Zt,Zt,Zt,Zf,Zf,Zf,Zf,Zf] (fun s_ => [(13, .agg #[.int .i64 t129, .int .i64 t130])]) (fun s_ w' => (w'.cell? ⟨gb126, 0, none⟩ = some (.int .i64 a0_0) ∧ w'.cell? ⟨gb126, 1, none⟩ = some (.int .i64 a0_1) ∧ w'.cell? ⟨gb126, 2, none⟩ = some (.int .i64 a0_2) ∧ w'.cell? ⟨gb127, 0, none⟩ = some (.int .i64 a1_0) ∧ w'.cell? ⟨gb127, 1, none⟩ = some (.int .i64 a1_1) ∧ w'.cell? ⟨gb127, 2, none⟩ = some (.int .i64 a1_2) ∧ w'.cell? ⟨gb127, 3, none⟩ = some (.int .i64 a1_3)) ∧ (w'.heap[gb126]? = some (.cells #[.int .i64 a0_0, .int .i64 a0_1, .int .i64 a0_2] 32 (0, 0))) ∧ (w'.heap[gb127]? = some (.cells #[.int .i64 a1_0, .int .i64 a1_1, .int .i64 a1_2, .int .i64 a1_3] 37 (0, 0))) ∧ (w'.heap[gb128]? = some (.cells #[.int .i64 0, .int .i64 0, .int .i64 0, .int .i64 0] 37 (0, 0))) ∧ (Below w.heap.size w w')) ?_ ?_
         rotate_left
         ·intro hJ6
          refine join_ (σ := Nat) 5 #[Zt,Zt,Zt,Zt,Zt,Zt,Zf,Zt,Zt,Zt,Zt,Zt,Zt,Zf,Zt,Zf,Zf,Zf] (fun s_ => [(5, .pointer (some ⟨s_, 0, none⟩))]) (fun s_ w' => (w'.cell? ⟨gb126, 0, none⟩ = some (.int .i64 a0_0) ∧ w'.cell? ⟨gb126, 1, none⟩ = some (.int .i64 a0_1) ∧ w'.cell? ⟨gb126, 2, none⟩ = some (.int .i64 a0_2) ∧ w'.cell? ⟨gb127, 0, none⟩ = some (.int .i64 a1_0) ∧ w'.cell? ⟨gb127, 1, none⟩ = some (.int .i64 a1_1) ∧ w'.cell? ⟨gb127, 2, none⟩ = some (.int .i64 a1_2) ∧ w'.cell? ⟨gb127, 3, none⟩ = some (.int .i64 a1_3)) ∧ (w'.heap[gb126]? = some (.cells #[.int .i64 a0_0, .int .i64 a0_1, .int .i64 a0_2] 32 (0, 0))) ∧ (w'.heap[gb127]? = some (.cells #[.int .i64 a1_0, .int .i64 a1_1, .int .i64 a1_2, .int .i64 a1_3] 37 (0, 0))) ∧ (w'.heap[gb128]? = some (.cells #[.int .i64 0, .int .i64 0, .int .i64 0, .int .i64 0] 37 (0, 0))) ∧ (w'.heap[s_]? = some (.cells #[.int .i64 0, .int .i64 0] 23 (0, 0))) ∧ (w.heap.size ≤ s_) ∧ (w.heap.size ≤ s_) ∧ (gb126 ≠ s_) ∧ (s_ ≠ gb126) ∧ (gb127 ≠ s_) ∧ (s_ ≠ gb127) ∧ (gb128 ≠ s_) ∧ (s_ ≠ gb128) ∧ (Below w.heap.size w w')) ?_ ?_
          rotate_left
          ·intro hJ14
           refine join_ (σ := Nat) 5 #[Zt,Zt,Zt,Zt,Zt,Zt,Zf,Zt,Zt,Zt,Zt,Zt,Zt,Zf,Zf,Zt,Zf,Zf] (fun s_ => [(6, .pointer (some ⟨s_, 0, none⟩))]) (fun s_ w' => (w'.cell? ⟨gb126, 0, none⟩ = some (.int .i64 a0_0) ∧ w'.cell? ⟨gb126, 1, none⟩ = some (.int .i64 a0_1) ∧ w'.cell? ⟨gb126, 2, none⟩ = some (.int .i64 a0_2) ∧ w'.cell? ⟨gb127, 0, none⟩ = some (.int .i64 a1_0) ∧ w'.cell? ⟨gb127, 1, none⟩ = some (.int .i64 a1_1) ∧ w'.cell? ⟨gb127, 2, none⟩ = some (.int .i64 a1_2) ∧ w'.cell? ⟨gb127, 3, none⟩ = some (.int .i64 a1_3)) ∧ (w'.heap[gb126]? = some (.cells #[.int .i64 a0_0, .int .i64 a0_1, .int .i64 a0_2] 32 (0, 0))) ∧ (w'.heap[gb127]? = some (.cells #[.int .i64 a1_0, .int .i64 a1_1, .int .i64 a1_2, .int .i64 a1_3] 37 (0, 0))) ∧ (w'.heap[gb128]? = some (.cells #[.int .i64 0, .int .i64 0, .int .i64 0, .int .i64 0] 37 (0, 0))) ∧ (w'.heap[s_]? = some (.cells #[.int .i64 0, .int .i64 0] 23 (0, 0))) ∧ (w.heap.size ≤ s_) ∧ (w.heap.size ≤ s_) ∧ (gb126 ≠ s_) ∧ (s_ ≠ gb126) ∧ (gb127 ≠ s_) ∧ (s_ ≠ gb127) ∧ (gb128 ≠ s_) ∧ (s_ ≠ gb128) ∧ (Below w.heap.size w w')) ?_ ?_
           rotate_left
           ·intro hJ15
            refine three_ (i := 6) (j := 14) (k := 15) (Ni := some 13) (Nj := some 5) (Nk := some 6) #[Zt,Zt,Zt,Zt,Zt,Zt,Zt,Zt,Zt,Zt,Zt,Zt,Zt,Zf,Zf,Zf,Zf,Zf] #[Zt,Zt,Zt,Zt,Zt,Zt,Zf,Zt,Zt,Zt,Zt,Zt,Zt,Zf,Zt,Zf,Zf,Zf] #[Zt,Zt,Zt,Zt,Zt,Zt,Zf,Zt,Zt,Zt,Zt,Zt,Zt,Zf,Zf,Zt,Zf,Zf] rfl rfl rfl rfl rfl rfl (three_of HT_.out (by kernel_rfl)) (by decide) (by decide) (by decide) (fun K hK => ?_) (fun K hK => ?_) (fun K hK => ?_)
            ·skip
             refine goes_ Try.func97 (by kernel_rfl) rfl #[.agg #[.int .i64 a0_0, .int .i64 a0_1, .int .i64 a0_2], .agg #[.int .i64 a1_0, .int .i64 a1_1]] (by rfl) rfl rfl (by (try simp only [List.map_toArray, List.map_cons, List.map_nil]); first | done | rfl | (simp only [List.length_drop, List.length_take]; rfl)) ?_
             with_reducible refine (place_Do.calls k a0_0 a0_1 a0_2 a1_0 a1_1 t129 t130 _ A3.out).mono ?_
             rintro e w13 ⟨rfl, hb⟩
             refine ⟨_, rfl, ?_⟩
             have n0_ := Za (Xf (g := gb126) (o := .cells #[.int .i64 a0_0, .int .i64 a0_1, .int .i64 a0_2] 32 (0, 0)) (bb_5 BK126.out) hb)
             have n1_ := Za (Xf (g := gb127) (o := .cells #[.int .i64 a1_0, .int .i64 a1_1, .int .i64 a1_2, .int .i64 a1_3] 37 (0, 0)) (bb_5 BK127.out) hb)
             have n2_ := Za (Xf (g := gb128) (o := .cells #[.int .i64 0, .int .i64 0, .int .i64 0, .int .i64 0] 37 (0, 0)) (bb_5 BK128.out) hb)
             have n3_ := Za (below_step (hb_5 HB.out) hb)
             clear BK126
             clear BK127
             clear BK128
             clear HB
             have BK126 := n0_
             have BK127 := n1_
             have BK128 := n2_
             have HB := n3_
             clear n0_ n1_ n2_ n3_
             (try clear hb)
             (try clear hb2)
             (try clear hk)
             (try clear hi)
             refine hK.out _ _ ⟨(Xd BK126.out 0).trans rfl, (Xd BK126.out 1).trans rfl, (Xd BK126.out 2).trans rfl, (Xd BK127.out 0).trans rfl, (Xd BK127.out 1).trans rfl, (Xd BK127.out 2).trans rfl, (Xd BK127.out 3).trans rfl⟩ (fun hHeld => ?_)
             clear hK K
             refine norm_ (a' := ?_) ?_ ?_
             rotate_left
             ·show Act.put _ (some 13) _ = _
              simp only [Act.put, Xa, Xb, Xc, i64_w, i32_w]
              rfl
             exact norm_ (by first | (simp only [Xh, Act.put, Xa, Xb, Xc]; done) | (simp only [Xh, Act.put, Xa, Xb, Xc]; rfl)) (hJ6 () _ ⟨hHeld, (bb_5 BK126.out), (bb_5 BK127.out), (bb_5 BK128.out), (hb_5 HB.out)⟩)
            ·skip
             refine box_step ?hg (N := 5) ?hd (cs := #[.int .i64 0, .int .i64 0]) (t := 23) ?hr ?_; (case hd => rfl); (case hg => rfl); (case hr => first | (go_simp; done) | (go_simp; rfl))
             intro gb133 hg w13 hbox hb
             have n0_ := Za (Xf (g := gb126) (o := .cells #[.int .i64 a0_0, .int .i64 a0_1, .int .i64 a0_2] 32 (0, 0)) (bb_5 BK126.out) hb)
             have n1_ := Za (Xf (g := gb127) (o := .cells #[.int .i64 a1_0, .int .i64 a1_1, .int .i64 a1_2, .int .i64 a1_3] 37 (0, 0)) (bb_5 BK127.out) hb)
             have n2_ := Za (Xf (g := gb128) (o := .cells #[.int .i64 0, .int .i64 0, .int .i64 0, .int .i64 0] 37 (0, 0)) (bb_5 BK128.out) hb)
             have n3_ := Za (below_step (hb_5 HB.out) hb)
             have n4_ := Za (hbox)
             have n5_ := Za ((by rw [hg]; exact (Xi (hb_5 HB.out)) : w.heap.size ≤ gb133))
             have n6_ := Za ((by rw [hg]; exact (Xi (hb_5 HB.out)) : w.heap.size ≤ gb133))
             have n7_ := Za ((by rw [hg]; exact Nat.ne_of_lt (Xg (g := gb126) (o := .cells #[.int .i64 a0_0, .int .i64 a0_1, .int .i64 a0_2] 32 (0, 0)) (bb_5 BK126.out)) : gb126 ≠ gb133))
             have n8_ := Za ((by rw [hg]; exact Nat.ne_of_gt (Xg (g := gb126) (o := .cells #[.int .i64 a0_0, .int .i64 a0_1, .int .i64 a0_2] 32 (0, 0)) (bb_5 BK126.out)) : gb133 ≠ gb126))
             have n9_ := Za ((by rw [hg]; exact Nat.ne_of_lt (Xg (g := gb127) (o := .cells #[.int .i64 a1_0, .int .i64 a1_1, .int .i64 a1_2, .int .i64 a1_3] 37 (0, 0)) (bb_5 BK127.out)) : gb127 ≠ gb133))
             have n10_ := Za ((by rw [hg]; exact Nat.ne_of_gt (Xg (g := gb127) (o := .cells #[.int .i64 a1_0, .int .i64 a1_1, .int .i64 a1_2, .int .i64 a1_3] 37 (0, 0)) (bb_5 BK127.out)) : gb133 ≠ gb127))
             have n11_ := Za ((by rw [hg]; exact Nat.ne_of_lt (Xg (g := gb128) (o := .cells #[.int .i64 0, .int .i64 0, .int .i64 0, .int .i64 0] 37 (0, 0)) (bb_5 BK128.out)) : gb128 ≠ gb133))
             have n12_ := Za ((by rw [hg]; exact Nat.ne_of_gt (Xg (g := gb128) (o := .cells #[.int .i64 0, .int .i64 0, .int .i64 0, .int .i64 0] 37 (0, 0)) (bb_5 BK128.out)) : gb133 ≠ gb128))
             clear BK126
             clear BK127
             clear BK128
             clear HB
             have BK126 := n0_
             have BK127 := n1_
             have BK128 := n2_
             have HB := n3_
             have BK133 := n4_
             have GW133 := n5_
             have GE133 := n6_
             have NB126_133 := n7_
             have NB133_126 := n8_
             have NB127_133 := n9_
             have NB133_127 := n10_
             have NB128_133 := n11_
             have NB133_128 := n12_
             clear n0_ n1_ n2_ n3_ n4_ n5_ n6_ n7_ n8_ n9_ n10_ n11_ n12_
             clear hb hbox hg
             refine hK.out _ _ ⟨(Xd BK126.out 0).trans rfl, (Xd BK126.out 1).trans rfl, (Xd BK126.out 2).trans rfl, (Xd BK127.out 0).trans rfl, (Xd BK127.out 1).trans rfl, (Xd BK127.out 2).trans rfl, (Xd BK127.out 3).trans rfl⟩ (fun hHeld => ?_)
             clear hK K
             refine norm_ (a' := ?_) ?_ ?_
             rotate_left
             ·show Act.put _ (some 5) _ = _
              simp only [Act.put, Xa, Xb, Xc, i64_w, i32_w]
              rfl
             exact norm_ (by first | (simp only [Xh, Act.put, Xa, Xb, Xc]; done) | (simp only [Xh, Act.put, Xa, Xb, Xc]; rfl)) (hJ14 (gb133) _ ⟨hHeld, (bb_5 BK126.out), (bb_5 BK127.out), (bb_5 BK128.out), (bb_5 BK133.out), GW133.out, GE133.out, NB126_133.out, NB133_126.out, NB127_133.out, NB133_127.out, NB128_133.out, NB133_128.out, (hb_5 HB.out)⟩)
            ·skip
             refine box_step ?hg (N := 6) ?hd (cs := #[.int .i64 0, .int .i64 0]) (t := 23) ?hr ?_; (case hd => rfl); (case hg => rfl); (case hr => first | (go_simp; done) | (go_simp; rfl))
             intro gb134 hg w13 hbox hb
             have n0_ := Za (Xf (g := gb126) (o := .cells #[.int .i64 a0_0, .int .i64 a0_1, .int .i64 a0_2] 32 (0, 0)) (bb_5 BK126.out) hb)
             have n1_ := Za (Xf (g := gb127) (o := .cells #[.int .i64 a1_0, .int .i64 a1_1, .int .i64 a1_2, .int .i64 a1_3] 37 (0, 0)) (bb_5 BK127.out) hb)
             have n2_ := Za (Xf (g := gb128) (o := .cells #[.int .i64 0, .int .i64 0, .int .i64 0, .int .i64 0] 37 (0, 0)) (bb_5 BK128.out) hb)
             have n3_ := Za (below_step (hb_5 HB.out) hb)
             have n4_ := Za (hbox)
             have n5_ := Za ((by rw [hg]; exact (Xi (hb_5 HB.out)) : w.heap.size ≤ gb134))
             have n6_ := Za ((by rw [hg]; exact (Xi (hb_5 HB.out)) : w.heap.size ≤ gb134))
             have n7_ := Za ((by rw [hg]; exact Nat.ne_of_lt (Xg (g := gb126) (o := .cells #[.int .i64 a0_0, .int .i64 a0_1, .int .i64 a0_2] 32 (0, 0)) (bb_5 BK126.out)) : gb126 ≠ gb134))
             have n8_ := Za ((by rw [hg]; exact Nat.ne_of_gt (Xg (g := gb126) (o := .cells #[.int .i64 a0_0, .int .i64 a0_1, .int .i64 a0_2] 32 (0, 0)) (bb_5 BK126.out)) : gb134 ≠ gb126))
             have n9_ := Za ((by rw [hg]; exact Nat.ne_of_lt (Xg (g := gb127) (o := .cells #[.int .i64 a1_0, .int .i64 a1_1, .int .i64 a1_2, .int .i64 a1_3] 37 (0, 0)) (bb_5 BK127.out)) : gb127 ≠ gb134))
             have n10_ := Za ((by rw [hg]; exact Nat.ne_of_gt (Xg (g := gb127) (o := .cells #[.int .i64 a1_0, .int .i64 a1_1, .int .i64 a1_2, .int .i64 a1_3] 37 (0, 0)) (bb_5 BK127.out)) : gb134 ≠ gb127))
             have n11_ := Za ((by rw [hg]; exact Nat.ne_of_lt (Xg (g := gb128) (o := .cells #[.int .i64 0, .int .i64 0, .int .i64 0, .int .i64 0] 37 (0, 0)) (bb_5 BK128.out)) : gb128 ≠ gb134))
             have n12_ := Za ((by rw [hg]; exact Nat.ne_of_gt (Xg (g := gb128) (o := .cells #[.int .i64 0, .int .i64 0, .int .i64 0, .int .i64 0] 37 (0, 0)) (bb_5 BK128.out)) : gb134 ≠ gb128))
             clear BK126
             clear BK127
             clear BK128
             clear HB
             have BK126 := n0_
             have BK127 := n1_
             have BK128 := n2_
             have HB := n3_
             have BK134 := n4_
             have GW134 := n5_
             have GE134 := n6_
             have NB126_134 := n7_
             have NB134_126 := n8_
             have NB127_134 := n9_
             have NB134_127 := n10_
             have NB128_134 := n11_
             have NB134_128 := n12_
             clear n0_ n1_ n2_ n3_ n4_ n5_ n6_ n7_ n8_ n9_ n10_ n11_ n12_
             clear hb hbox hg
             refine hK.out _ _ ⟨(Xd BK126.out 0).trans rfl, (Xd BK126.out 1).trans rfl, (Xd BK126.out 2).trans rfl, (Xd BK127.out 0).trans rfl, (Xd BK127.out 1).trans rfl, (Xd BK127.out 2).trans rfl, (Xd BK127.out 3).trans rfl⟩ (fun hHeld => ?_)
             clear hK K
             refine norm_ (a' := ?_) ?_ ?_
             rotate_left
             ·show Act.put _ (some 6) _ = _
              simp only [Act.put, Xa, Xb, Xc, i64_w, i32_w]
              rfl
             exact norm_ (by first | (simp only [Xh, Act.put, Xa, Xb, Xc]; done) | (simp only [Xh, Act.put, Xa, Xb, Xc]; rfl)) (hJ15 (gb134) _ ⟨hHeld, (bb_5 BK126.out), (bb_5 BK127.out), (bb_5 BK128.out), (bb_5 BK134.out), GW134.out, GE134.out, NB126_134.out, NB134_126.out, NB127_134.out, NB134_127.out, NB128_134.out, NB134_128.out, (hb_5 HB.out)⟩)
           ·skip
            rintro gb134 w14 ⟨hS_, h0_, h1_, h2_, h3_, h4_, h5_, h6_, h7_, h8_, h9_, h10_, h11_, h12_⟩
            have n0_ : Xe (w14.heap[gb126]? = some (.cells #[.int .i64 a0_0, .int .i64 a0_1, .int .i64 a0_2] 32 (0, 0))) := ⟨h0_⟩
            have n1_ : Xe (w14.heap[gb127]? = some (.cells #[.int .i64 a1_0, .int .i64 a1_1, .int .i64 a1_2, .int .i64 a1_3] 37 (0, 0))) := ⟨h1_⟩
            have n2_ : Xe (w14.heap[gb128]? = some (.cells #[.int .i64 0, .int .i64 0, .int .i64 0, .int .i64 0] 37 (0, 0))) := ⟨h2_⟩
            have n3_ : Xe (w14.heap[gb134]? = some (.cells #[.int .i64 0, .int .i64 0] 23 (0, 0))) := ⟨h3_⟩
            have n4_ : Xe (w.heap.size ≤ gb134) := ⟨h4_⟩
            have n5_ : Xe (w.heap.size ≤ gb134) := ⟨h5_⟩
            have n6_ : Xe (gb126 ≠ gb134) := ⟨h6_⟩
            have n7_ : Xe (gb134 ≠ gb126) := ⟨h7_⟩
            have n8_ : Xe (gb127 ≠ gb134) := ⟨h8_⟩
            have n9_ : Xe (gb134 ≠ gb127) := ⟨h9_⟩
            have n10_ : Xe (gb128 ≠ gb134) := ⟨h10_⟩
            have n11_ : Xe (gb134 ≠ gb128) := ⟨h11_⟩
            have n12_ : Xe (Below w.heap.size w w14) := ⟨h12_⟩
            clear BK126
            clear BK127
            clear BK128
            clear HB
            clear h0_ h1_ h2_ h3_ h4_ h5_ h6_ h7_ h8_ h9_ h10_ h11_ h12_
            have BK126 := n0_
            have BK127 := n1_
            have BK128 := n2_
            have BK134 := n3_
            have GW134 := n4_
            have GE134 := n5_
            have NB126_134 := n6_
            have NB134_126 := n7_
            have NB127_134 := n8_
            have NB134_127 := n9_
            have NB128_134 := n10_
            have NB134_128 := n11_
            have HB := n12_
            clear n0_ n1_ n2_ n3_ n4_ n5_ n6_ n7_ n8_ n9_ n10_ n11_ n12_
            have hHeld : w14.cell? ⟨gb126, 0, none⟩ = some (.int .i64 a0_0) ∧ w14.cell? ⟨gb126, 1, none⟩ = some (.int .i64 a0_1) ∧ w14.cell? ⟨gb126, 2, none⟩ = some (.int .i64 a0_2) ∧ w14.cell? ⟨gb127, 0, none⟩ = some (.int .i64 a1_0) ∧ w14.cell? ⟨gb127, 1, none⟩ = some (.int .i64 a1_1) ∧ w14.cell? ⟨gb127, 2, none⟩ = some (.int .i64 a1_2) ∧ w14.cell? ⟨gb127, 3, none⟩ = some (.int .i64 a1_3) := hS_
            refine norm_ (a' := ?_) ?_ ?_
            rotate_left
            ·simp only [Xh, Act.put, Xa, Xb, Xc]
             rfl
            refine two_ (i := 6) (j := 14) (Ni := some 13) (Nj := some 5) #[Zt,Zt,Zt,Zt,Zt,Zt,Zt,Zt,Zt,Zt,Zt,Zt,Zt,Zf,Zf,Zt,Zf,Zf] #[Zt,Zt,Zt,Zt,Zt,Zt,Zf,Zt,Zt,Zt,Zt,Zt,Zt,Zf,Zt,Zt,Zf,Zf] rfl rfl rfl rfl (two_of HT_.out (by kernel_rfl)) (by decide) (by decide) (fun K hK => ?_) (fun K hK => ?_)
            ·skip
             refine goes_ Try.func97 (by kernel_rfl) rfl #[.agg #[.int .i64 a0_0, .int .i64 a0_1, .int .i64 a0_2], .agg #[.int .i64 a1_0, .int .i64 a1_1]] (by rfl) rfl rfl (by (try simp only [List.map_toArray, List.map_cons, List.map_nil]); first | done | rfl | (simp only [List.length_drop, List.length_take]; rfl)) ?_
             with_reducible refine (place_Do.calls k a0_0 a0_1 a0_2 a1_0 a1_1 t129 t130 _ A3.out).mono ?_
             rintro e w15 ⟨rfl, hb⟩
             refine ⟨_, rfl, ?_⟩
             have n0_ := Za (Xf (g := gb126) (o := .cells #[.int .i64 a0_0, .int .i64 a0_1, .int .i64 a0_2] 32 (0, 0)) (bb_5 BK126.out) hb)
             have n1_ := Za (Xf (g := gb127) (o := .cells #[.int .i64 a1_0, .int .i64 a1_1, .int .i64 a1_2, .int .i64 a1_3] 37 (0, 0)) (bb_5 BK127.out) hb)
             have n2_ := Za (Xf (g := gb128) (o := .cells #[.int .i64 0, .int .i64 0, .int .i64 0, .int .i64 0] 37 (0, 0)) (bb_5 BK128.out) hb)
             have n3_ := Za (Xf (g := gb134) (o := .cells #[.int .i64 0, .int .i64 0] 23 (0, 0)) (bb_5 BK134.out) hb)
             have n4_ := Za (below_step (hb_5 HB.out) hb)
             clear BK126
             clear BK127
             clear BK128
             clear BK134
             clear HB
             have BK126 := n0_
             have BK127 := n1_
             have BK128 := n2_
             have BK134 := n3_
             have HB := n4_
             clear n0_ n1_ n2_ n3_ n4_
             (try clear hb)
             (try clear hb2)
             (try clear hk)
             (try clear hi)
             refine hK.out _ _ ⟨(Xd BK126.out 0).trans rfl, (Xd BK126.out 1).trans rfl, (Xd BK126.out 2).trans rfl, (Xd BK127.out 0).trans rfl, (Xd BK127.out 1).trans rfl, (Xd BK127.out 2).trans rfl, (Xd BK127.out 3).trans rfl⟩ (fun hHeld => ?_)
             clear hK K
             refine norm_ (a' := ?_) ?_ ?_
             rotate_left
             ·show Act.put _ (some 13) _ = _
              simp only [Act.put, Xa, Xb, Xc, i64_w, i32_w]
              rfl
             exact norm_ (by first | (simp only [Xh, Act.put, Xa, Xb, Xc]; done) | (simp only [Xh, Act.put, Xa, Xb, Xc]; rfl)) (hJ6_15 (gb134) _ ⟨hHeld, (bb_5 BK126.out), (bb_5 BK127.out), (bb_5 BK128.out), (bb_5 BK134.out), GW134.out, GE134.out, NB126_134.out, NB134_126.out, NB127_134.out, NB134_127.out, NB128_134.out, NB134_128.out, (hb_5 HB.out)⟩)
            ·skip
             refine box_step ?hg (N := 5) ?hd (cs := #[.int .i64 0, .int .i64 0]) (t := 23) ?hr ?_; (case hd => rfl); (case hg => rfl); (case hr => first | (go_simp; done) | (go_simp; rfl))
             intro gb133 hg w15 hbox hb
             have n0_ := Za (Xf (g := gb126) (o := .cells #[.int .i64 a0_0, .int .i64 a0_1, .int .i64 a0_2] 32 (0, 0)) (bb_5 BK126.out) hb)
             have n1_ := Za (Xf (g := gb127) (o := .cells #[.int .i64 a1_0, .int .i64 a1_1, .int .i64 a1_2, .int .i64 a1_3] 37 (0, 0)) (bb_5 BK127.out) hb)
             have n2_ := Za (Xf (g := gb128) (o := .cells #[.int .i64 0, .int .i64 0, .int .i64 0, .int .i64 0] 37 (0, 0)) (bb_5 BK128.out) hb)
             have n3_ := Za (Xf (g := gb134) (o := .cells #[.int .i64 0, .int .i64 0] 23 (0, 0)) (bb_5 BK134.out) hb)
             have n4_ := Za (below_step (hb_5 HB.out) hb)
             have n5_ := Za (hbox)
             have n6_ := Za ((by rw [hg]; exact (Xi (hb_5 HB.out)) : w.heap.size ≤ gb133))
             have n7_ := Za ((by rw [hg]; exact (Xi (hb_5 HB.out)) : w.heap.size ≤ gb133))
             have n8_ := Za ((by rw [hg]; exact Nat.ne_of_lt (Xg (g := gb126) (o := .cells #[.int .i64 a0_0, .int .i64 a0_1, .int .i64 a0_2] 32 (0, 0)) (bb_5 BK126.out)) : gb126 ≠ gb133))
             have n9_ := Za ((by rw [hg]; exact Nat.ne_of_gt (Xg (g := gb126) (o := .cells #[.int .i64 a0_0, .int .i64 a0_1, .int .i64 a0_2] 32 (0, 0)) (bb_5 BK126.out)) : gb133 ≠ gb126))
             have n10_ := Za ((by rw [hg]; exact Nat.ne_of_lt (Xg (g := gb127) (o := .cells #[.int .i64 a1_0, .int .i64 a1_1, .int .i64 a1_2, .int .i64 a1_3] 37 (0, 0)) (bb_5 BK127.out)) : gb127 ≠ gb133))
             have n11_ := Za ((by rw [hg]; exact Nat.ne_of_gt (Xg (g := gb127) (o := .cells #[.int .i64 a1_0, .int .i64 a1_1, .int .i64 a1_2, .int .i64 a1_3] 37 (0, 0)) (bb_5 BK127.out)) : gb133 ≠ gb127))
             have n12_ := Za ((by rw [hg]; exact Nat.ne_of_lt (Xg (g := gb128) (o := .cells #[.int .i64 0, .int .i64 0, .int .i64 0, .int .i64 0] 37 (0, 0)) (bb_5 BK128.out)) : gb128 ≠ gb133))
             have n13_ := Za ((by rw [hg]; exact Nat.ne_of_gt (Xg (g := gb128) (o := .cells #[.int .i64 0, .int .i64 0, .int .i64 0, .int .i64 0] 37 (0, 0)) (bb_5 BK128.out)) : gb133 ≠ gb128))
             have n14_ := Za ((by rw [hg]; exact Nat.ne_of_lt (Xg (g := gb134) (o := .cells #[.int .i64 0, .int .i64 0] 23 (0, 0)) (bb_5 BK134.out)) : gb134 ≠ gb133))
             have n15_ := Za ((by rw [hg]; exact Nat.ne_of_gt (Xg (g := gb134) (o := .cells #[.int .i64 0, .int .i64 0] 23 (0, 0)) (bb_5 BK134.out)) : gb133 ≠ gb134))
             clear BK126
             clear BK127
             clear BK128
             clear BK134
             clear HB
             have BK126 := n0_
             have BK127 := n1_
             have BK128 := n2_
             have BK134 := n3_
             have HB := n4_
             have BK133 := n5_
             have GW133 := n6_
             have GE133 := n7_
             have NB126_133 := n8_
             have NB133_126 := n9_
             have NB127_133 := n10_
             have NB133_127 := n11_
             have NB128_133 := n12_
             have NB133_128 := n13_
             have NB134_133 := n14_
             have NB133_134 := n15_
             clear n0_ n1_ n2_ n3_ n4_ n5_ n6_ n7_ n8_ n9_ n10_ n11_ n12_ n13_ n14_ n15_
             clear hb hbox hg
             refine hK.out _ _ ⟨(Xd BK126.out 0).trans rfl, (Xd BK126.out 1).trans rfl, (Xd BK126.out 2).trans rfl, (Xd BK127.out 0).trans rfl, (Xd BK127.out 1).trans rfl, (Xd BK127.out 2).trans rfl, (Xd BK127.out 3).trans rfl⟩ (fun hHeld => ?_)
             clear hK K
             refine norm_ (a' := ?_) ?_ ?_
             rotate_left
             ·show Act.put _ (some 5) _ = _
              simp only [Act.put, Xa, Xb, Xc, i64_w, i32_w]
              rfl
             exact norm_ (by first | (simp only [Xh, Act.put, Xa, Xb, Xc]; done) | (simp only [Xh, Act.put, Xa, Xb, Xc]; rfl)) (hJ14_15 (gb133, gb134) _ ⟨hHeld, (bb_5 BK126.out), (bb_5 BK127.out), (bb_5 BK128.out), (bb_5 BK133.out), (bb_5 BK134.out), GW133.out, GE133.out, NB126_133.out, NB133_126.out, NB127_133.out, NB133_127.out, NB128_133.out, NB133_128.out, NB134_133.out, NB133_134.out, GW134.out, GE134.out, NB126_134.out, NB134_126.out, NB127_134.out, NB134_127.out, NB128_134.out, NB134_128.out, (hb_5 HB.out)⟩)
          ·skip
           rintro gb133 w14 ⟨hS_, h0_, h1_, h2_, h3_, h4_, h5_, h6_, h7_, h8_, h9_, h10_, h11_, h12_⟩
           have n0_ : Xe (w14.heap[gb126]? = some (.cells #[.int .i64 a0_0, .int .i64 a0_1, .int .i64 a0_2] 32 (0, 0))) := ⟨h0_⟩
           have n1_ : Xe (w14.heap[gb127]? = some (.cells #[.int .i64 a1_0, .int .i64 a1_1, .int .i64 a1_2, .int .i64 a1_3] 37 (0, 0))) := ⟨h1_⟩
           have n2_ : Xe (w14.heap[gb128]? = some (.cells #[.int .i64 0, .int .i64 0, .int .i64 0, .int .i64 0] 37 (0, 0))) := ⟨h2_⟩
           have n3_ : Xe (w14.heap[gb133]? = some (.cells #[.int .i64 0, .int .i64 0] 23 (0, 0))) := ⟨h3_⟩
           have n4_ : Xe (w.heap.size ≤ gb133) := ⟨h4_⟩
           have n5_ : Xe (w.heap.size ≤ gb133) := ⟨h5_⟩
           have n6_ : Xe (gb126 ≠ gb133) := ⟨h6_⟩
           have n7_ : Xe (gb133 ≠ gb126) := ⟨h7_⟩
           have n8_ : Xe (gb127 ≠ gb133) := ⟨h8_⟩
           have n9_ : Xe (gb133 ≠ gb127) := ⟨h9_⟩
           have n10_ : Xe (gb128 ≠ gb133) := ⟨h10_⟩
           have n11_ : Xe (gb133 ≠ gb128) := ⟨h11_⟩
           have n12_ : Xe (Below w.heap.size w w14) := ⟨h12_⟩
           clear BK126
           clear BK127
           clear BK128
           clear HB
           clear h0_ h1_ h2_ h3_ h4_ h5_ h6_ h7_ h8_ h9_ h10_ h11_ h12_
           have BK126 := n0_
           have BK127 := n1_
           have BK128 := n2_
           have BK133 := n3_
           have GW133 := n4_
           have GE133 := n5_
           have NB126_133 := n6_
           have NB133_126 := n7_
           have NB127_133 := n8_
           have NB133_127 := n9_
           have NB128_133 := n10_
           have NB133_128 := n11_
           have HB := n12_
           clear n0_ n1_ n2_ n3_ n4_ n5_ n6_ n7_ n8_ n9_ n10_ n11_ n12_
           have hHeld : w14.cell? ⟨gb126, 0, none⟩ = some (.int .i64 a0_0) ∧ w14.cell? ⟨gb126, 1, none⟩ = some (.int .i64 a0_1) ∧ w14.cell? ⟨gb126, 2, none⟩ = some (.int .i64 a0_2) ∧ w14.cell? ⟨gb127, 0, none⟩ = some (.int .i64 a1_0) ∧ w14.cell? ⟨gb127, 1, none⟩ = some (.int .i64 a1_1) ∧ w14.cell? ⟨gb127, 2, none⟩ = some (.int .i64 a1_2) ∧ w14.cell? ⟨gb127, 3, none⟩ = some (.int .i64 a1_3) := hS_
           refine norm_ (a' := ?_) ?_ ?_
           rotate_left
           ·simp only [Xh, Act.put, Xa, Xb, Xc]
            rfl
           refine two_ (i := 6) (j := 15) (Ni := some 13) (Nj := some 6) #[Zt,Zt,Zt,Zt,Zt,Zt,Zt,Zt,Zt,Zt,Zt,Zt,Zt,Zf,Zt,Zf,Zf,Zf] #[Zt,Zt,Zt,Zt,Zt,Zt,Zf,Zt,Zt,Zt,Zt,Zt,Zt,Zf,Zt,Zt,Zf,Zf] rfl rfl rfl rfl (two_of HT_.out (by kernel_rfl)) (by decide) (by decide) (fun K hK => ?_) (fun K hK => ?_)
           ·skip
            refine goes_ Try.func97 (by kernel_rfl) rfl #[.agg #[.int .i64 a0_0, .int .i64 a0_1, .int .i64 a0_2], .agg #[.int .i64 a1_0, .int .i64 a1_1]] (by rfl) rfl rfl (by (try simp only [List.map_toArray, List.map_cons, List.map_nil]); first | done | rfl | (simp only [List.length_drop, List.length_take]; rfl)) ?_
            with_reducible refine (place_Do.calls k a0_0 a0_1 a0_2 a1_0 a1_1 t129 t130 _ A3.out).mono ?_
            rintro e w15 ⟨rfl, hb⟩
            refine ⟨_, rfl, ?_⟩
            have n0_ := Za (Xf (g := gb126) (o := .cells #[.int .i64 a0_0, .int .i64 a0_1, .int .i64 a0_2] 32 (0, 0)) (bb_5 BK126.out) hb)
            have n1_ := Za (Xf (g := gb127) (o := .cells #[.int .i64 a1_0, .int .i64 a1_1, .int .i64 a1_2, .int .i64 a1_3] 37 (0, 0)) (bb_5 BK127.out) hb)
            have n2_ := Za (Xf (g := gb128) (o := .cells #[.int .i64 0, .int .i64 0, .int .i64 0, .int .i64 0] 37 (0, 0)) (bb_5 BK128.out) hb)
            have n3_ := Za (Xf (g := gb133) (o := .cells #[.int .i64 0, .int .i64 0] 23 (0, 0)) (bb_5 BK133.out) hb)
            have n4_ := Za (below_step (hb_5 HB.out) hb)
            clear BK126
            clear BK127
            clear BK128
            clear BK133
            clear HB
            have BK126 := n0_
            have BK127 := n1_
            have BK128 := n2_
            have BK133 := n3_
            have HB := n4_
            clear n0_ n1_ n2_ n3_ n4_
            (try clear hb)
            (try clear hb2)
            (try clear hk)
            (try clear hi)
            refine hK.out _ _ ⟨(Xd BK126.out 0).trans rfl, (Xd BK126.out 1).trans rfl, (Xd BK126.out 2).trans rfl, (Xd BK127.out 0).trans rfl, (Xd BK127.out 1).trans rfl, (Xd BK127.out 2).trans rfl, (Xd BK127.out 3).trans rfl⟩ (fun hHeld => ?_)
            clear hK K
            refine norm_ (a' := ?_) ?_ ?_
            rotate_left
            ·show Act.put _ (some 13) _ = _
             simp only [Act.put, Xa, Xb, Xc, i64_w, i32_w]
             rfl
            exact norm_ (by first | (simp only [Xh, Act.put, Xa, Xb, Xc]; done) | (simp only [Xh, Act.put, Xa, Xb, Xc]; rfl)) (hJ6_14 (gb133) _ ⟨hHeld, (bb_5 BK126.out), (bb_5 BK127.out), (bb_5 BK128.out), (bb_5 BK133.out), GW133.out, GE133.out, NB126_133.out, NB133_126.out, NB127_133.out, NB133_127.out, NB128_133.out, NB133_128.out, (hb_5 HB.out)⟩)
           ·skip
            refine box_step ?hg (N := 6) ?hd (cs := #[.int .i64 0, .int .i64 0]) (t := 23) ?hr ?_; (case hd => rfl); (case hg => rfl); (case hr => first | (go_simp; done) | (go_simp; rfl))
            intro gb134 hg w15 hbox hb
            have n0_ := Za (Xf (g := gb126) (o := .cells #[.int .i64 a0_0, .int .i64 a0_1, .int .i64 a0_2] 32 (0, 0)) (bb_5 BK126.out) hb)
            have n1_ := Za (Xf (g := gb127) (o := .cells #[.int .i64 a1_0, .int .i64 a1_1, .int .i64 a1_2, .int .i64 a1_3] 37 (0, 0)) (bb_5 BK127.out) hb)
            have n2_ := Za (Xf (g := gb128) (o := .cells #[.int .i64 0, .int .i64 0, .int .i64 0, .int .i64 0] 37 (0, 0)) (bb_5 BK128.out) hb)
            have n3_ := Za (Xf (g := gb133) (o := .cells #[.int .i64 0, .int .i64 0] 23 (0, 0)) (bb_5 BK133.out) hb)
            have n4_ := Za (below_step (hb_5 HB.out) hb)
            have n5_ := Za (hbox)
            have n6_ := Za ((by rw [hg]; exact (Xi (hb_5 HB.out)) : w.heap.size ≤ gb134))
            have n7_ := Za ((by rw [hg]; exact (Xi (hb_5 HB.out)) : w.heap.size ≤ gb134))
            have n8_ := Za ((by rw [hg]; exact Nat.ne_of_lt (Xg (g := gb126) (o := .cells #[.int .i64 a0_0, .int .i64 a0_1, .int .i64 a0_2] 32 (0, 0)) (bb_5 BK126.out)) : gb126 ≠ gb134))
            have n9_ := Za ((by rw [hg]; exact Nat.ne_of_gt (Xg (g := gb126) (o := .cells #[.int .i64 a0_0, .int .i64 a0_1, .int .i64 a0_2] 32 (0, 0)) (bb_5 BK126.out)) : gb134 ≠ gb126))
            have n10_ := Za ((by rw [hg]; exact Nat.ne_of_lt (Xg (g := gb127) (o := .cells #[.int .i64 a1_0, .int .i64 a1_1, .int .i64 a1_2, .int .i64 a1_3] 37 (0, 0)) (bb_5 BK127.out)) : gb127 ≠ gb134))
            have n11_ := Za ((by rw [hg]; exact Nat.ne_of_gt (Xg (g := gb127) (o := .cells #[.int .i64 a1_0, .int .i64 a1_1, .int .i64 a1_2, .int .i64 a1_3] 37 (0, 0)) (bb_5 BK127.out)) : gb134 ≠ gb127))
            have n12_ := Za ((by rw [hg]; exact Nat.ne_of_lt (Xg (g := gb128) (o := .cells #[.int .i64 0, .int .i64 0, .int .i64 0, .int .i64 0] 37 (0, 0)) (bb_5 BK128.out)) : gb128 ≠ gb134))
            have n13_ := Za ((by rw [hg]; exact Nat.ne_of_gt (Xg (g := gb128) (o := .cells #[.int .i64 0, .int .i64 0, .int .i64 0, .int .i64 0] 37 (0, 0)) (bb_5 BK128.out)) : gb134 ≠ gb128))
            have n14_ := Za ((by rw [hg]; exact Nat.ne_of_lt (Xg (g := gb133) (o := .cells #[.int .i64 0, .int .i64 0] 23 (0, 0)) (bb_5 BK133.out)) : gb133 ≠ gb134))
            have n15_ := Za ((by rw [hg]; exact Nat.ne_of_gt (Xg (g := gb133) (o := .cells #[.int .i64 0, .int .i64 0] 23 (0, 0)) (bb_5 BK133.out)) : gb134 ≠ gb133))
            clear BK126
            clear BK127
            clear BK128
            clear BK133
            clear HB
            have BK126 := n0_
            have BK127 := n1_
            have BK128 := n2_
            have BK133 := n3_
            have HB := n4_
            have BK134 := n5_
            have GW134 := n6_
            have GE134 := n7_
            have NB126_134 := n8_
            have NB134_126 := n9_
            have NB127_134 := n10_
            have NB134_127 := n11_
            have NB128_134 := n12_
            have NB134_128 := n13_
            have NB133_134 := n14_
            have NB134_133 := n15_
            clear n0_ n1_ n2_ n3_ n4_ n5_ n6_ n7_ n8_ n9_ n10_ n11_ n12_ n13_ n14_ n15_
            clear hb hbox hg
            refine hK.out _ _ ⟨(Xd BK126.out 0).trans rfl, (Xd BK126.out 1).trans rfl, (Xd BK126.out 2).trans rfl, (Xd BK127.out 0).trans rfl, (Xd BK127.out 1).trans rfl, (Xd BK127.out 2).trans rfl, (Xd BK127.out 3).trans rfl⟩ (fun hHeld => ?_)
            clear hK K
            refine norm_ (a' := ?_) ?_ ?_
            rotate_left
            ·show Act.put _ (some 6) _ = _
             simp only [Act.put, Xa, Xb, Xc, i64_w, i32_w]
             rfl
            exact norm_ (by first | (simp only [Xh, Act.put, Xa, Xb, Xc]; done) | (simp only [Xh, Act.put, Xa, Xb, Xc]; rfl)) (hJ14_15 (gb133, gb134) _ ⟨hHeld, (bb_5 BK126.out), (bb_5 BK127.out), (bb_5 BK128.out), (bb_5 BK133.out), (bb_5 BK134.out), GW133.out, GE133.out, NB126_133.out, NB133_126.out, NB127_133.out, NB133_127.out, NB128_133.out, NB133_128.out, NB134_133.out, NB133_134.out, GW134.out, GE134.out, NB126_134.out, NB134_126.out, NB127_134.out, NB134_127.out, NB128_134.out, NB134_128.out, (hb_5 HB.out)⟩)
         ·skip
          rintro _ w14 ⟨hS_, h0_, h1_, h2_, h3_⟩
          have n0_ : Xe (w14.heap[gb126]? = some (.cells #[.int .i64 a0_0, .int .i64 a0_1, .int .i64 a0_2] 32 (0, 0))) := ⟨h0_⟩
          have n1_ : Xe (w14.heap[gb127]? = some (.cells #[.int .i64 a1_0, .int .i64 a1_1, .int .i64 a1_2, .int .i64 a1_3] 37 (0, 0))) := ⟨h1_⟩
          have n2_ : Xe (w14.heap[gb128]? = some (.cells #[.int .i64 0, .int .i64 0, .int .i64 0, .int .i64 0] 37 (0, 0))) := ⟨h2_⟩
          have n3_ : Xe (Below w.heap.size w w14) := ⟨h3_⟩
          clear BK126
          clear BK127
          clear BK128
          clear HB
          clear h0_ h1_ h2_ h3_
          have BK126 := n0_
          have BK127 := n1_
          have BK128 := n2_
          have HB := n3_
          clear n0_ n1_ n2_ n3_
          have hHeld : w14.cell? ⟨gb126, 0, none⟩ = some (.int .i64 a0_0) ∧ w14.cell? ⟨gb126, 1, none⟩ = some (.int .i64 a0_1) ∧ w14.cell? ⟨gb126, 2, none⟩ = some (.int .i64 a0_2) ∧ w14.cell? ⟨gb127, 0, none⟩ = some (.int .i64 a1_0) ∧ w14.cell? ⟨gb127, 1, none⟩ = some (.int .i64 a1_1) ∧ w14.cell? ⟨gb127, 2, none⟩ = some (.int .i64 a1_2) ∧ w14.cell? ⟨gb127, 3, none⟩ = some (.int .i64 a1_3) := hS_
          refine norm_ (a' := ?_) ?_ ?_
          rotate_left
          ·simp only [Xh, Act.put, Xa, Xb, Xc]
           rfl
          refine three_ (i := 13) (j := 14) (k := 15) (Ni := some 20) (Nj := some 5) (Nk := some 6) #[Zt,Zt,Zt,Zt,Zt,Zt,Zt,Zt,Zt,Zt,Zt,Zt,Zt,Zt,Zf,Zf,Zf,Zf] #[Zt,Zt,Zt,Zt,Zt,Zt,Zt,Zt,Zt,Zt,Zt,Zt,Zt,Zf,Zt,Zf,Zf,Zf] #[Zt,Zt,Zt,Zt,Zt,Zt,Zt,Zt,Zt,Zt,Zt,Zt,Zt,Zf,Zf,Zt,Zf,Zf] rfl rfl rfl rfl rfl rfl (three_of HT_.out (by kernel_rfl)) (by decide) (by decide) (by decide) (fun K hK => ?_) (fun K hK => ?_) (fun K hK => ?_)
          ·skip
           refine goes_ Try.func97 (by kernel_rfl) rfl #[.agg #[.int .i64 a0_0, .int .i64 a0_1, .int .i64 a0_2], .agg #[.int .i64 a1_2, .int .i64 a1_3]] (by rfl) rfl rfl (by (try simp only [List.map_toArray, List.map_cons, List.map_nil]); first | done | rfl | (simp only [List.length_drop, List.length_take]; rfl)) ?_
           with_reducible refine (place_Do.calls k a0_0 a0_1 a0_2 a1_2 a1_3 t131 t132 _ A4.out).mono ?_
           rintro e w15 ⟨rfl, hb⟩
           refine ⟨_, rfl, ?_⟩
           have n0_ := Za (Xf (g := gb126) (o := .cells #[.int .i64 a0_0, .int .i64 a0_1, .int .i64 a0_2] 32 (0, 0)) (bb_5 BK126.out) hb)
           have n1_ := Za (Xf (g := gb127) (o := .cells #[.int .i64 a1_0, .int .i64 a1_1, .int .i64 a1_2, .int .i64 a1_3] 37 (0, 0)) (bb_5 BK127.out) hb)
           have n2_ := Za (Xf (g := gb128) (o := .cells #[.int .i64 0, .int .i64 0, .int .i64 0, .int .i64 0] 37 (0, 0)) (bb_5 BK128.out) hb)
           have n3_ := Za (below_step (hb_5 HB.out) hb)
           clear BK126
           clear BK127
           clear BK128
           clear HB
           have BK126 := n0_
           have BK127 := n1_
           have BK128 := n2_
           have HB := n3_
           clear n0_ n1_ n2_ n3_
           (try clear hb)
           (try clear hb2)
           (try clear hk)
           (try clear hi)
           refine hK.out _ _ ⟨(Xd BK126.out 0).trans rfl, (Xd BK126.out 1).trans rfl, (Xd BK126.out 2).trans rfl, (Xd BK127.out 0).trans rfl, (Xd BK127.out 1).trans rfl, (Xd BK127.out 2).trans rfl, (Xd BK127.out 3).trans rfl⟩ (fun hHeld => ?_)
           clear hK K
           refine norm_ (a' := ?_) ?_ ?_
           rotate_left
           ·show Act.put _ (some 20) _ = _
            simp only [Act.put, Xa, Xb, Xc, i64_w, i32_w]
            rfl
           exact norm_ (by first | (simp only [Xh, Act.put, Xa, Xb, Xc]; done) | (simp only [Xh, Act.put, Xa, Xb, Xc]; rfl)) (hJ6_13 () _ ⟨hHeld, (bb_5 BK126.out), (bb_5 BK127.out), (bb_5 BK128.out), (hb_5 HB.out)⟩)
          ·skip
           refine box_step ?hg (N := 5) ?hd (cs := #[.int .i64 0, .int .i64 0]) (t := 23) ?hr ?_; (case hd => rfl); (case hg => rfl); (case hr => first | (go_simp; done) | (go_simp; rfl))
           intro gb133 hg w15 hbox hb
           have n0_ := Za (Xf (g := gb126) (o := .cells #[.int .i64 a0_0, .int .i64 a0_1, .int .i64 a0_2] 32 (0, 0)) (bb_5 BK126.out) hb)
           have n1_ := Za (Xf (g := gb127) (o := .cells #[.int .i64 a1_0, .int .i64 a1_1, .int .i64 a1_2, .int .i64 a1_3] 37 (0, 0)) (bb_5 BK127.out) hb)
           have n2_ := Za (Xf (g := gb128) (o := .cells #[.int .i64 0, .int .i64 0, .int .i64 0, .int .i64 0] 37 (0, 0)) (bb_5 BK128.out) hb)
           have n3_ := Za (below_step (hb_5 HB.out) hb)
           have n4_ := Za (hbox)
           have n5_ := Za ((by rw [hg]; exact (Xi (hb_5 HB.out)) : w.heap.size ≤ gb133))
           have n6_ := Za ((by rw [hg]; exact (Xi (hb_5 HB.out)) : w.heap.size ≤ gb133))
           have n7_ := Za ((by rw [hg]; exact Nat.ne_of_lt (Xg (g := gb126) (o := .cells #[.int .i64 a0_0, .int .i64 a0_1, .int .i64 a0_2] 32 (0, 0)) (bb_5 BK126.out)) : gb126 ≠ gb133))
           have n8_ := Za ((by rw [hg]; exact Nat.ne_of_gt (Xg (g := gb126) (o := .cells #[.int .i64 a0_0, .int .i64 a0_1, .int .i64 a0_2] 32 (0, 0)) (bb_5 BK126.out)) : gb133 ≠ gb126))
           have n9_ := Za ((by rw [hg]; exact Nat.ne_of_lt (Xg (g := gb127) (o := .cells #[.int .i64 a1_0, .int .i64 a1_1, .int .i64 a1_2, .int .i64 a1_3] 37 (0, 0)) (bb_5 BK127.out)) : gb127 ≠ gb133))
           have n10_ := Za ((by rw [hg]; exact Nat.ne_of_gt (Xg (g := gb127) (o := .cells #[.int .i64 a1_0, .int .i64 a1_1, .int .i64 a1_2, .int .i64 a1_3] 37 (0, 0)) (bb_5 BK127.out)) : gb133 ≠ gb127))
           have n11_ := Za ((by rw [hg]; exact Nat.ne_of_lt (Xg (g := gb128) (o := .cells #[.int .i64 0, .int .i64 0, .int .i64 0, .int .i64 0] 37 (0, 0)) (bb_5 BK128.out)) : gb128 ≠ gb133))
           have n12_ := Za ((by rw [hg]; exact Nat.ne_of_gt (Xg (g := gb128) (o := .cells #[.int .i64 0, .int .i64 0, .int .i64 0, .int .i64 0] 37 (0, 0)) (bb_5 BK128.out)) : gb133 ≠ gb128))
           clear BK126
           clear BK127
           clear BK128
           clear HB
           have BK126 := n0_
           have BK127 := n1_
           have BK128 := n2_
           have HB := n3_
           have BK133 := n4_
           have GW133 := n5_
           have GE133 := n6_
           have NB126_133 := n7_
           have NB133_126 := n8_
           have NB127_133 := n9_
           have NB133_127 := n10_
           have NB128_133 := n11_
           have NB133_128 := n12_
           clear n0_ n1_ n2_ n3_ n4_ n5_ n6_ n7_ n8_ n9_ n10_ n11_ n12_
           clear hb hbox hg
           refine hK.out _ _ ⟨(Xd BK126.out 0).trans rfl, (Xd BK126.out 1).trans rfl, (Xd BK126.out 2).trans rfl, (Xd BK127.out 0).trans rfl, (Xd BK127.out 1).trans rfl, (Xd BK127.out 2).trans rfl, (Xd BK127.out 3).trans rfl⟩ (fun hHeld => ?_)
           clear hK K
           refine norm_ (a' := ?_) ?_ ?_
           rotate_left
           ·show Act.put _ (some 5) _ = _
            simp only [Act.put, Xa, Xb, Xc, i64_w, i32_w]
            rfl
           exact norm_ (by first | (simp only [Xh, Act.put, Xa, Xb, Xc]; done) | (simp only [Xh, Act.put, Xa, Xb, Xc]; rfl)) (hJ6_14 (gb133) _ ⟨hHeld, (bb_5 BK126.out), (bb_5 BK127.out), (bb_5 BK128.out), (bb_5 BK133.out), GW133.out, GE133.out, NB126_133.out, NB133_126.out, NB127_133.out, NB133_127.out, NB128_133.out, NB133_128.out, (hb_5 HB.out)⟩)
          ·skip
           refine box_step ?hg (N := 6) ?hd (cs := #[.int .i64 0, .int .i64 0]) (t := 23) ?hr ?_; (case hd => rfl); (case hg => rfl); (case hr => first | (go_simp; done) | (go_simp; rfl))
           intro gb134 hg w15 hbox hb
           have n0_ := Za (Xf (g := gb126) (o := .cells #[.int .i64 a0_0, .int .i64 a0_1, .int .i64 a0_2] 32 (0, 0)) (bb_5 BK126.out) hb)
           have n1_ := Za (Xf (g := gb127) (o := .cells #[.int .i64 a1_0, .int .i64 a1_1, .int .i64 a1_2, .int .i64 a1_3] 37 (0, 0)) (bb_5 BK127.out) hb)
           have n2_ := Za (Xf (g := gb128) (o := .cells #[.int .i64 0, .int .i64 0, .int .i64 0, .int .i64 0] 37 (0, 0)) (bb_5 BK128.out) hb)
           have n3_ := Za (below_step (hb_5 HB.out) hb)
           have n4_ := Za (hbox)
           have n5_ := Za ((by rw [hg]; exact (Xi (hb_5 HB.out)) : w.heap.size ≤ gb134))
           have n6_ := Za ((by rw [hg]; exact (Xi (hb_5 HB.out)) : w.heap.size ≤ gb134))
           have n7_ := Za ((by rw [hg]; exact Nat.ne_of_lt (Xg (g := gb126) (o := .cells #[.int .i64 a0_0, .int .i64 a0_1, .int .i64 a0_2] 32 (0, 0)) (bb_5 BK126.out)) : gb126 ≠ gb134))
           have n8_ := Za ((by rw [hg]; exact Nat.ne_of_gt (Xg (g := gb126) (o := .cells #[.int .i64 a0_0, .int .i64 a0_1, .int .i64 a0_2] 32 (0, 0)) (bb_5 BK126.out)) : gb134 ≠ gb126))
           have n9_ := Za ((by rw [hg]; exact Nat.ne_of_lt (Xg (g := gb127) (o := .cells #[.int .i64 a1_0, .int .i64 a1_1, .int .i64 a1_2, .int .i64 a1_3] 37 (0, 0)) (bb_5 BK127.out)) : gb127 ≠ gb134))
           have n10_ := Za ((by rw [hg]; exact Nat.ne_of_gt (Xg (g := gb127) (o := .cells #[.int .i64 a1_0, .int .i64 a1_1, .int .i64 a1_2, .int .i64 a1_3] 37 (0, 0)) (bb_5 BK127.out)) : gb134 ≠ gb127))
           have n11_ := Za ((by rw [hg]; exact Nat.ne_of_lt (Xg (g := gb128) (o := .cells #[.int .i64 0, .int .i64 0, .int .i64 0, .int .i64 0] 37 (0, 0)) (bb_5 BK128.out)) : gb128 ≠ gb134))
           have n12_ := Za ((by rw [hg]; exact Nat.ne_of_gt (Xg (g := gb128) (o := .cells #[.int .i64 0, .int .i64 0, .int .i64 0, .int .i64 0] 37 (0, 0)) (bb_5 BK128.out)) : gb134 ≠ gb128))
           clear BK126
           clear BK127
           clear BK128
           clear HB
           have BK126 := n0_
           have BK127 := n1_
           have BK128 := n2_
           have HB := n3_
           have BK134 := n4_
           have GW134 := n5_
           have GE134 := n6_
           have NB126_134 := n7_
           have NB134_126 := n8_
           have NB127_134 := n9_
           have NB134_127 := n10_
           have NB128_134 := n11_
           have NB134_128 := n12_
           clear n0_ n1_ n2_ n3_ n4_ n5_ n6_ n7_ n8_ n9_ n10_ n11_ n12_
           clear hb hbox hg
           refine hK.out _ _ ⟨(Xd BK126.out 0).trans rfl, (Xd BK126.out 1).trans rfl, (Xd BK126.out 2).trans rfl, (Xd BK127.out 0).trans rfl, (Xd BK127.out 1).trans rfl, (Xd BK127.out 2).trans rfl, (Xd BK127.out 3).trans rfl⟩ (fun hHeld => ?_)
           clear hK K
           refine norm_ (a' := ?_) ?_ ?_
           rotate_left
           ·show Act.put _ (some 6) _ = _
            simp only [Act.put, Xa, Xb, Xc, i64_w, i32_w]
            rfl
           exact norm_ (by first | (simp only [Xh, Act.put, Xa, Xb, Xc]; done) | (simp only [Xh, Act.put, Xa, Xb, Xc]; rfl)) (hJ6_15 (gb134) _ ⟨hHeld, (bb_5 BK126.out), (bb_5 BK127.out), (bb_5 BK128.out), (bb_5 BK134.out), GW134.out, GE134.out, NB126_134.out, NB134_126.out, NB127_134.out, NB134_127.out, NB128_134.out, NB134_128.out, (hb_5 HB.out)⟩)
        ·skip
         rintro ⟨gb133, gb134⟩ w15 ⟨hS_, h0_, h1_, h2_, h3_, h4_, h5_, h6_, h7_, h8_, h9_, h10_, h11_, h12_, h13_, h14_, h15_, h16_, h17_, h18_, h19_, h20_, h21_, h22_, h23_⟩
         have n0_ : Xe (w15.heap[gb126]? = some (.cells #[.int .i64 a0_0, .int .i64 a0_1, .int .i64 a0_2] 32 (0, 0))) := ⟨h0_⟩
         have n1_ : Xe (w15.heap[gb127]? = some (.cells #[.int .i64 a1_0, .int .i64 a1_1, .int .i64 a1_2, .int .i64 a1_3] 37 (0, 0))) := ⟨h1_⟩
         have n2_ : Xe (w15.heap[gb128]? = some (.cells #[.int .i64 0, .int .i64 0, .int .i64 0, .int .i64 0] 37 (0, 0))) := ⟨h2_⟩
         have n3_ : Xe (w15.heap[gb133]? = some (.cells #[.int .i64 0, .int .i64 0] 23 (0, 0))) := ⟨h3_⟩
         have n4_ : Xe (w15.heap[gb134]? = some (.cells #[.int .i64 0, .int .i64 0] 23 (0, 0))) := ⟨h4_⟩
         have n5_ : Xe (w.heap.size ≤ gb133) := ⟨h5_⟩
         have n6_ : Xe (w.heap.size ≤ gb133) := ⟨h6_⟩
         have n7_ : Xe (gb126 ≠ gb133) := ⟨h7_⟩
         have n8_ : Xe (gb133 ≠ gb126) := ⟨h8_⟩
         have n9_ : Xe (gb127 ≠ gb133) := ⟨h9_⟩
         have n10_ : Xe (gb133 ≠ gb127) := ⟨h10_⟩
         have n11_ : Xe (gb128 ≠ gb133) := ⟨h11_⟩
         have n12_ : Xe (gb133 ≠ gb128) := ⟨h12_⟩
         have n13_ : Xe (gb134 ≠ gb133) := ⟨h13_⟩
         have n14_ : Xe (gb133 ≠ gb134) := ⟨h14_⟩
         have n15_ : Xe (w.heap.size ≤ gb134) := ⟨h15_⟩
         have n16_ : Xe (w.heap.size ≤ gb134) := ⟨h16_⟩
         have n17_ : Xe (gb126 ≠ gb134) := ⟨h17_⟩
         have n18_ : Xe (gb134 ≠ gb126) := ⟨h18_⟩
         have n19_ : Xe (gb127 ≠ gb134) := ⟨h19_⟩
         have n20_ : Xe (gb134 ≠ gb127) := ⟨h20_⟩
         have n21_ : Xe (gb128 ≠ gb134) := ⟨h21_⟩
         have n22_ : Xe (gb134 ≠ gb128) := ⟨h22_⟩
         have n23_ : Xe (Below w.heap.size w w15) := ⟨h23_⟩
         clear BK126
         clear BK127
         clear BK128
         clear HB
         clear h0_ h1_ h2_ h3_ h4_ h5_ h6_ h7_ h8_ h9_ h10_ h11_ h12_ h13_ h14_ h15_ h16_ h17_ h18_ h19_ h20_ h21_ h22_ h23_
         have BK126 := n0_
         have BK127 := n1_
         have BK128 := n2_
         have BK133 := n3_
         have BK134 := n4_
         have GW133 := n5_
         have GE133 := n6_
         have NB126_133 := n7_
         have NB133_126 := n8_
         have NB127_133 := n9_
         have NB133_127 := n10_
         have NB128_133 := n11_
         have NB133_128 := n12_
         have NB134_133 := n13_
         have NB133_134 := n14_
         have GW134 := n15_
         have GE134 := n16_
         have NB126_134 := n17_
         have NB134_126 := n18_
         have NB127_134 := n19_
         have NB134_127 := n20_
         have NB128_134 := n21_
         have NB134_128 := n22_
         have HB := n23_
         clear n0_ n1_ n2_ n3_ n4_ n5_ n6_ n7_ n8_ n9_ n10_ n11_ n12_ n13_ n14_ n15_ n16_ n17_ n18_ n19_ n20_ n21_ n22_ n23_
         have hHeld : w15.cell? ⟨gb126, 0, none⟩ = some (.int .i64 a0_0) ∧ w15.cell? ⟨gb126, 1, none⟩ = some (.int .i64 a0_1) ∧ w15.cell? ⟨gb126, 2, none⟩ = some (.int .i64 a0_2) ∧ w15.cell? ⟨gb127, 0, none⟩ = some (.int .i64 a1_0) ∧ w15.cell? ⟨gb127, 1, none⟩ = some (.int .i64 a1_1) ∧ w15.cell? ⟨gb127, 2, none⟩ = some (.int .i64 a1_2) ∧ w15.cell? ⟨gb127, 3, none⟩ = some (.int .i64 a1_3) := hS_
         refine norm_ (a' := ?_) ?_ ?_
         rotate_left
         ·simp only [Xh, Act.put, Xa, Xb, Xc]
          rfl
         refine one_ (i := 6) (N := some 13) #[Zt,Zt,Zt,Zt,Zt,Zt,Zt,Zt,Zt,Zt,Zt,Zt,Zt,Zf,Zt,Zt,Zf,Zf] rfl rfl (one_of HT_.out (by kernel_rfl)) (by decide) (fun K hK => ?_)
         refine goes_ Try.func97 (by kernel_rfl) rfl #[.agg #[.int .i64 a0_0, .int .i64 a0_1, .int .i64 a0_2], .agg #[.int .i64 a1_0, .int .i64 a1_1]] (by rfl) rfl rfl (by (try simp only [List.map_toArray, List.map_cons, List.map_nil]); first | done | rfl | (simp only [List.length_drop, List.length_take]; rfl)) ?_
         with_reducible refine (place_Do.calls k a0_0 a0_1 a0_2 a1_0 a1_1 t129 t130 _ A3.out).mono ?_
         rintro e w16 ⟨rfl, hb⟩
         refine ⟨_, rfl, ?_⟩
         have n0_ := Za (Xf (g := gb126) (o := .cells #[.int .i64 a0_0, .int .i64 a0_1, .int .i64 a0_2] 32 (0, 0)) (bb_5 BK126.out) hb)
         have n1_ := Za (Xf (g := gb127) (o := .cells #[.int .i64 a1_0, .int .i64 a1_1, .int .i64 a1_2, .int .i64 a1_3] 37 (0, 0)) (bb_5 BK127.out) hb)
         have n2_ := Za (Xf (g := gb128) (o := .cells #[.int .i64 0, .int .i64 0, .int .i64 0, .int .i64 0] 37 (0, 0)) (bb_5 BK128.out) hb)
         have n3_ := Za (Xf (g := gb133) (o := .cells #[.int .i64 0, .int .i64 0] 23 (0, 0)) (bb_5 BK133.out) hb)
         have n4_ := Za (Xf (g := gb134) (o := .cells #[.int .i64 0, .int .i64 0] 23 (0, 0)) (bb_5 BK134.out) hb)
         have n5_ := Za (below_step (hb_5 HB.out) hb)
         clear BK126
         clear BK127
         clear BK128
         clear BK133
         clear BK134
         clear HB
         have BK126 := n0_
         have BK127 := n1_
         have BK128 := n2_
         have BK133 := n3_
         have BK134 := n4_
         have HB := n5_
         clear n0_ n1_ n2_ n3_ n4_ n5_
         (try clear hb)
         (try clear hb2)
         (try clear hk)
         (try clear hi)
         refine hK.out _ _ ⟨(Xd BK126.out 0).trans rfl, (Xd BK126.out 1).trans rfl, (Xd BK126.out 2).trans rfl, (Xd BK127.out 0).trans rfl, (Xd BK127.out 1).trans rfl, (Xd BK127.out 2).trans rfl, (Xd BK127.out 3).trans rfl⟩ (fun hHeld => ?_)
         clear hK K
         refine norm_ (a' := ?_) ?_ ?_
         rotate_left
         ·show Act.put _ (some 13) _ = _
          simp only [Act.put, Xa, Xb, Xc, i64_w, i32_w]
          rfl
         exact norm_ (by first | (simp only [Xh, Act.put, Xa, Xb, Xc]; done) | (simp only [Xh, Act.put, Xa, Xb, Xc]; rfl)) (hJ6_14_15 (gb133, gb134) _ ⟨hHeld, (bb_5 BK126.out), (bb_5 BK127.out), (bb_5 BK128.out), (bb_5 BK133.out), (bb_5 BK134.out), GW133.out, GE133.out, NB126_133.out, NB133_126.out, NB127_133.out, NB133_127.out, NB128_133.out, NB133_128.out, NB134_133.out, NB133_134.out, GW134.out, GE134.out, NB126_134.out, NB134_126.out, NB127_134.out, NB134_127.out, NB128_134.out, NB134_128.out, (hb_5 HB.out)⟩)
       ·skip
        rintro gb134 w15 ⟨hS_, h0_, h1_, h2_, h3_, h4_, h5_, h6_, h7_, h8_, h9_, h10_, h11_, h12_⟩
        have n0_ : Xe (w15.heap[gb126]? = some (.cells #[.int .i64 a0_0, .int .i64 a0_1, .int .i64 a0_2] 32 (0, 0))) := ⟨h0_⟩
        have n1_ : Xe (w15.heap[gb127]? = some (.cells #[.int .i64 a1_0, .int .i64 a1_1, .int .i64 a1_2, .int .i64 a1_3] 37 (0, 0))) := ⟨h1_⟩
        have n2_ : Xe (w15.heap[gb128]? = some (.cells #[.int .i64 0, .int .i64 0, .int .i64 0, .int .i64 0] 37 (0, 0))) := ⟨h2_⟩
        have n3_ : Xe (w15.heap[gb134]? = some (.cells #[.int .i64 0, .int .i64 0] 23 (0, 0))) := ⟨h3_⟩
        have n4_ : Xe (w.heap.size ≤ gb134) := ⟨h4_⟩
        have n5_ : Xe (w.heap.size ≤ gb134) := ⟨h5_⟩
        have n6_ : Xe (gb126 ≠ gb134) := ⟨h6_⟩
        have n7_ : Xe (gb134 ≠ gb126) := ⟨h7_⟩
        have n8_ : Xe (gb127 ≠ gb134) := ⟨h8_⟩
        have n9_ : Xe (gb134 ≠ gb127) := ⟨h9_⟩
        have n10_ : Xe (gb128 ≠ gb134) := ⟨h10_⟩
        have n11_ : Xe (gb134 ≠ gb128) := ⟨h11_⟩
        have n12_ : Xe (Below w.heap.size w w15) := ⟨h12_⟩
        clear BK126
        clear BK127
        clear BK128
        clear HB
        clear h0_ h1_ h2_ h3_ h4_ h5_ h6_ h7_ h8_ h9_ h10_ h11_ h12_
        have BK126 := n0_
        have BK127 := n1_
        have BK128 := n2_
        have BK134 := n3_
        have GW134 := n4_
        have GE134 := n5_
        have NB126_134 := n6_
        have NB134_126 := n7_
        have NB127_134 := n8_
        have NB134_127 := n9_
        have NB128_134 := n10_
        have NB134_128 := n11_
        have HB := n12_
        clear n0_ n1_ n2_ n3_ n4_ n5_ n6_ n7_ n8_ n9_ n10_ n11_ n12_
        have hHeld : w15.cell? ⟨gb126, 0, none⟩ = some (.int .i64 a0_0) ∧ w15.cell? ⟨gb126, 1, none⟩ = some (.int .i64 a0_1) ∧ w15.cell? ⟨gb126, 2, none⟩ = some (.int .i64 a0_2) ∧ w15.cell? ⟨gb127, 0, none⟩ = some (.int .i64 a1_0) ∧ w15.cell? ⟨gb127, 1, none⟩ = some (.int .i64 a1_1) ∧ w15.cell? ⟨gb127, 2, none⟩ = some (.int .i64 a1_2) ∧ w15.cell? ⟨gb127, 3, none⟩ = some (.int .i64 a1_3) := hS_
        refine norm_ (a' := ?_) ?_ ?_
        rotate_left
        ·simp only [Xh, Act.put, Xa, Xb, Xc]
         rfl
        refine two_ (i := 13) (j := 14) (Ni := some 20) (Nj := some 5) #[Zt,Zt,Zt,Zt,Zt,Zt,Zt,Zt,Zt,Zt,Zt,Zt,Zt,Zt,Zf,Zt,Zf,Zf] #[Zt,Zt,Zt,Zt,Zt,Zt,Zt,Zt,Zt,Zt,Zt,Zt,Zt,Zf,Zt,Zt,Zf,Zf] rfl rfl rfl rfl (two_of HT_.out (by kernel_rfl)) (by decide) (by decide) (fun K hK => ?_) (fun K hK => ?_)
        ·skip
         refine goes_ Try.func97 (by kernel_rfl) rfl #[.agg #[.int .i64 a0_0, .int .i64 a0_1, .int .i64 a0_2], .agg #[.int .i64 a1_2, .int .i64 a1_3]] (by rfl) rfl rfl (by (try simp only [List.map_toArray, List.map_cons, List.map_nil]); first | done | rfl | (simp only [List.length_drop, List.length_take]; rfl)) ?_
         with_reducible refine (place_Do.calls k a0_0 a0_1 a0_2 a1_2 a1_3 t131 t132 _ A4.out).mono ?_
         rintro e w16 ⟨rfl, hb⟩
         refine ⟨_, rfl, ?_⟩
         have n0_ := Za (Xf (g := gb126) (o := .cells #[.int .i64 a0_0, .int .i64 a0_1, .int .i64 a0_2] 32 (0, 0)) (bb_5 BK126.out) hb)
         have n1_ := Za (Xf (g := gb127) (o := .cells #[.int .i64 a1_0, .int .i64 a1_1, .int .i64 a1_2, .int .i64 a1_3] 37 (0, 0)) (bb_5 BK127.out) hb)
         have n2_ := Za (Xf (g := gb128) (o := .cells #[.int .i64 0, .int .i64 0, .int .i64 0, .int .i64 0] 37 (0, 0)) (bb_5 BK128.out) hb)
         have n3_ := Za (Xf (g := gb134) (o := .cells #[.int .i64 0, .int .i64 0] 23 (0, 0)) (bb_5 BK134.out) hb)
         have n4_ := Za (below_step (hb_5 HB.out) hb)
         clear BK126
         clear BK127
         clear BK128
         clear BK134
         clear HB
         have BK126 := n0_
         have BK127 := n1_
         have BK128 := n2_
         have BK134 := n3_
         have HB := n4_
         clear n0_ n1_ n2_ n3_ n4_
         (try clear hb)
         (try clear hb2)
         (try clear hk)
         (try clear hi)
         refine hK.out _ _ ⟨(Xd BK126.out 0).trans rfl, (Xd BK126.out 1).trans rfl, (Xd BK126.out 2).trans rfl, (Xd BK127.out 0).trans rfl, (Xd BK127.out 1).trans rfl, (Xd BK127.out 2).trans rfl, (Xd BK127.out 3).trans rfl⟩ (fun hHeld => ?_)
         clear hK K
         refine norm_ (a' := ?_) ?_ ?_
         rotate_left
         ·show Act.put _ (some 20) _ = _
          simp only [Act.put, Xa, Xb, Xc, i64_w, i32_w]
          rfl
         exact norm_ (by first | (simp only [Xh, Act.put, Xa, Xb, Xc]; done) | (simp only [Xh, Act.put, Xa, Xb, Xc]; rfl)) (hJ6_13_15 (gb134) _ ⟨hHeld, (bb_5 BK126.out), (bb_5 BK127.out), (bb_5 BK128.out), (bb_5 BK134.out), GW134.out, GE134.out, NB126_134.out, NB134_126.out, NB127_134.out, NB134_127.out, NB128_134.out, NB134_128.out, (hb_5 HB.out)⟩)
        ·skip
         refine box_step ?hg (N := 5) ?hd (cs := #[.int .i64 0, .int .i64 0]) (t := 23) ?hr ?_; (case hd => rfl); (case hg => rfl); (case hr => first | (go_simp; done) | (go_simp; rfl))
         intro gb133 hg w16 hbox hb
         have n0_ := Za (Xf (g := gb126) (o := .cells #[.int .i64 a0_0, .int .i64 a0_1, .int .i64 a0_2] 32 (0, 0)) (bb_5 BK126.out) hb)
         have n1_ := Za (Xf (g := gb127) (o := .cells #[.int .i64 a1_0, .int .i64 a1_1, .int .i64 a1_2, .int .i64 a1_3] 37 (0, 0)) (bb_5 BK127.out) hb)
         have n2_ := Za (Xf (g := gb128) (o := .cells #[.int .i64 0, .int .i64 0, .int .i64 0, .int .i64 0] 37 (0, 0)) (bb_5 BK128.out) hb)
         have n3_ := Za (Xf (g := gb134) (o := .cells #[.int .i64 0, .int .i64 0] 23 (0, 0)) (bb_5 BK134.out) hb)
         have n4_ := Za (below_step (hb_5 HB.out) hb)
         have n5_ := Za (hbox)
         have n6_ := Za ((by rw [hg]; exact (Xi (hb_5 HB.out)) : w.heap.size ≤ gb133))
         have n7_ := Za ((by rw [hg]; exact (Xi (hb_5 HB.out)) : w.heap.size ≤ gb133))
         have n8_ := Za ((by rw [hg]; exact Nat.ne_of_lt (Xg (g := gb126) (o := .cells #[.int .i64 a0_0, .int .i64 a0_1, .int .i64 a0_2] 32 (0, 0)) (bb_5 BK126.out)) : gb126 ≠ gb133))
         have n9_ := Za ((by rw [hg]; exact Nat.ne_of_gt (Xg (g := gb126) (o := .cells #[.int .i64 a0_0, .int .i64 a0_1, .int .i64 a0_2] 32 (0, 0)) (bb_5 BK126.out)) : gb133 ≠ gb126))
         have n10_ := Za ((by rw [hg]; exact Nat.ne_of_lt (Xg (g := gb127) (o := .cells #[.int .i64 a1_0, .int .i64 a1_1, .int .i64 a1_2, .int .i64 a1_3] 37 (0, 0)) (bb_5 BK127.out)) : gb127 ≠ gb133))
         have n11_ := Za ((by rw [hg]; exact Nat.ne_of_gt (Xg (g := gb127) (o := .cells #[.int .i64 a1_0, .int .i64 a1_1, .int .i64 a1_2, .int .i64 a1_3] 37 (0, 0)) (bb_5 BK127.out)) : gb133 ≠ gb127))
         have n12_ := Za ((by rw [hg]; exact Nat.ne_of_lt (Xg (g := gb128) (o := .cells #[.int .i64 0, .int .i64 0, .int .i64 0, .int .i64 0] 37 (0, 0)) (bb_5 BK128.out)) : gb128 ≠ gb133))
         have n13_ := Za ((by rw [hg]; exact Nat.ne_of_gt (Xg (g := gb128) (o := .cells #[.int .i64 0, .int .i64 0, .int .i64 0, .int .i64 0] 37 (0, 0)) (bb_5 BK128.out)) : gb133 ≠ gb128))
         have n14_ := Za ((by rw [hg]; exact Nat.ne_of_lt (Xg (g := gb134) (o := .cells #[.int .i64 0, .int .i64 0] 23 (0, 0)) (bb_5 BK134.out)) : gb134 ≠ gb133))
         have n15_ := Za ((by rw [hg]; exact Nat.ne_of_gt (Xg (g := gb134) (o := .cells #[.int .i64 0, .int .i64 0] 23 (0, 0)) (bb_5 BK134.out)) : gb133 ≠ gb134))
         clear BK126
         clear BK127
         clear BK128
         clear BK134
         clear HB
         have BK126 := n0_
         have BK127 := n1_
         have BK128 := n2_
         have BK134 := n3_
         have HB := n4_
         have BK133 := n5_
         have GW133 := n6_
         have GE133 := n7_
         have NB126_133 := n8_
         have NB133_126 := n9_
         have NB127_133 := n10_
         have NB133_127 := n11_
         have NB128_133 := n12_
         have NB133_128 := n13_
         have NB134_133 := n14_
         have NB133_134 := n15_
         clear n0_ n1_ n2_ n3_ n4_ n5_ n6_ n7_ n8_ n9_ n10_ n11_ n12_ n13_ n14_ n15_
         clear hb hbox hg
         refine hK.out _ _ ⟨(Xd BK126.out 0).trans rfl, (Xd BK126.out 1).trans rfl, (Xd BK126.out 2).trans rfl, (Xd BK127.out 0).trans rfl, (Xd BK127.out 1).trans rfl, (Xd BK127.out 2).trans rfl, (Xd BK127.out 3).trans rfl⟩ (fun hHeld => ?_)
         clear hK K
         refine norm_ (a' := ?_) ?_ ?_
         rotate_left
         ·show Act.put _ (some 5) _ = _
          simp only [Act.put, Xa, Xb, Xc, i64_w, i32_w]
          rfl
         exact norm_ (by first | (simp only [Xh, Act.put, Xa, Xb, Xc]; done) | (simp only [Xh, Act.put, Xa, Xb, Xc]; rfl)) (hJ6_14_15 (gb133, gb134) _ ⟨hHeld, (bb_5 BK126.out), (bb_5 BK127.out), (bb_5 BK128.out), (bb_5 BK133.out), (bb_5 BK134.out), GW133.out, GE133.out, NB126_133.out, NB133_126.out, NB127_133.out, NB133_127.out, NB128_133.out, NB133_128.out, NB134_133.out, NB133_134.out, GW134.out, GE134.out, NB126_134.out, NB134_126.out, NB127_134.out, NB134_127.out, NB128_134.out, NB134_128.out, (hb_5 HB.out)⟩)
      ·skip
       rintro gb133 w15 ⟨hS_, h0_, h1_, h2_, h3_, h4_, h5_, h6_, h7_, h8_, h9_, h10_, h11_, h12_⟩
       have n0_ : Xe (w15.heap[gb126]? = some (.cells #[.int .i64 a0_0, .int .i64 a0_1, .int .i64 a0_2] 32 (0, 0))) := ⟨h0_⟩
       have n1_ : Xe (w15.heap[gb127]? = some (.cells #[.int .i64 a1_0, .int .i64 a1_1, .int .i64 a1_2, .int .i64 a1_3] 37 (0, 0))) := ⟨h1_⟩
       have n2_ : Xe (w15.heap[gb128]? = some (.cells #[.int .i64 0, .int .i64 0, .int .i64 0, .int .i64 0] 37 (0, 0))) := ⟨h2_⟩
       have n3_ : Xe (w15.heap[gb133]? = some (.cells #[.int .i64 0, .int .i64 0] 23 (0, 0))) := ⟨h3_⟩
       have n4_ : Xe (w.heap.size ≤ gb133) := ⟨h4_⟩
       have n5_ : Xe (w.heap.size ≤ gb133) := ⟨h5_⟩
       have n6_ : Xe (gb126 ≠ gb133) := ⟨h6_⟩
       have n7_ : Xe (gb133 ≠ gb126) := ⟨h7_⟩
       have n8_ : Xe (gb127 ≠ gb133) := ⟨h8_⟩
       have n9_ : Xe (gb133 ≠ gb127) := ⟨h9_⟩
       have n10_ : Xe (gb128 ≠ gb133) := ⟨h10_⟩
       have n11_ : Xe (gb133 ≠ gb128) := ⟨h11_⟩
       have n12_ : Xe (Below w.heap.size w w15) := ⟨h12_⟩
       clear BK126
       clear BK127
       clear BK128
       clear HB
       clear h0_ h1_ h2_ h3_ h4_ h5_ h6_ h7_ h8_ h9_ h10_ h11_ h12_
       have BK126 := n0_
       have BK127 := n1_
       have BK128 := n2_
       have BK133 := n3_
       have GW133 := n4_
       have GE133 := n5_
       have NB126_133 := n6_
       have NB133_126 := n7_
       have NB127_133 := n8_
       have NB133_127 := n9_
       have NB128_133 := n10_
       have NB133_128 := n11_
       have HB := n12_
       clear n0_ n1_ n2_ n3_ n4_ n5_ n6_ n7_ n8_ n9_ n10_ n11_ n12_
       have hHeld : w15.cell? ⟨gb126, 0, none⟩ = some (.int .i64 a0_0) ∧ w15.cell? ⟨gb126, 1, none⟩ = some (.int .i64 a0_1) ∧ w15.cell? ⟨gb126, 2, none⟩ = some (.int .i64 a0_2) ∧ w15.cell? ⟨gb127, 0, none⟩ = some (.int .i64 a1_0) ∧ w15.cell? ⟨gb127, 1, none⟩ = some (.int .i64 a1_1) ∧ w15.cell? ⟨gb127, 2, none⟩ = some (.int .i64 a1_2) ∧ w15.cell? ⟨gb127, 3, none⟩ = some (.int .i64 a1_3) := hS_
       refine norm_ (a' := ?_) ?_ ?_
       rotate_left
       ·simp only [Xh, Act.put, Xa, Xb, Xc]
        rfl
       refine two_ (i := 13) (j := 15) (Ni := some 20) (Nj := some 6) #[Zt,Zt,Zt,Zt,Zt,Zt,Zt,Zt,Zt,Zt,Zt,Zt,Zt,Zt,Zt,Zf,Zf,Zf] #[Zt,Zt,Zt,Zt,Zt,Zt,Zt,Zt,Zt,Zt,Zt,Zt,Zt,Zf,Zt,Zt,Zf,Zf] rfl rfl rfl rfl (two_of HT_.out (by kernel_rfl)) (by decide) (by decide) (fun K hK => ?_) (fun K hK => ?_)
       ·skip
        refine goes_ Try.func97 (by kernel_rfl) rfl #[.agg #[.int .i64 a0_0, .int .i64 a0_1, .int .i64 a0_2], .agg #[.int .i64 a1_2, .int .i64 a1_3]] (by rfl) rfl rfl (by (try simp only [List.map_toArray, List.map_cons, List.map_nil]); first | done | rfl | (simp only [List.length_drop, List.length_take]; rfl)) ?_
        with_reducible refine (place_Do.calls k a0_0 a0_1 a0_2 a1_2 a1_3 t131 t132 _ A4.out).mono ?_
        rintro e w16 ⟨rfl, hb⟩
        refine ⟨_, rfl, ?_⟩
        have n0_ := Za (Xf (g := gb126) (o := .cells #[.int .i64 a0_0, .int .i64 a0_1, .int .i64 a0_2] 32 (0, 0)) (bb_5 BK126.out) hb)
        have n1_ := Za (Xf (g := gb127) (o := .cells #[.int .i64 a1_0, .int .i64 a1_1, .int .i64 a1_2, .int .i64 a1_3] 37 (0, 0)) (bb_5 BK127.out) hb)
        have n2_ := Za (Xf (g := gb128) (o := .cells #[.int .i64 0, .int .i64 0, .int .i64 0, .int .i64 0] 37 (0, 0)) (bb_5 BK128.out) hb)
        have n3_ := Za (Xf (g := gb133) (o := .cells #[.int .i64 0, .int .i64 0] 23 (0, 0)) (bb_5 BK133.out) hb)
        have n4_ := Za (below_step (hb_5 HB.out) hb)
        clear BK126
        clear BK127
        clear BK128
        clear BK133
        clear HB
        have BK126 := n0_
        have BK127 := n1_
        have BK128 := n2_
        have BK133 := n3_
        have HB := n4_
        clear n0_ n1_ n2_ n3_ n4_
        (try clear hb)
        (try clear hb2)
        (try clear hk)
        (try clear hi)
        refine hK.out _ _ ⟨(Xd BK126.out 0).trans rfl, (Xd BK126.out 1).trans rfl, (Xd BK126.out 2).trans rfl, (Xd BK127.out 0).trans rfl, (Xd BK127.out 1).trans rfl, (Xd BK127.out 2).trans rfl, (Xd BK127.out 3).trans rfl⟩ (fun hHeld => ?_)
        clear hK K
        refine norm_ (a' := ?_) ?_ ?_
        rotate_left
        ·show Act.put _ (some 20) _ = _
         simp only [Act.put, Xa, Xb, Xc, i64_w, i32_w]
         rfl
        exact norm_ (by first | (simp only [Xh, Act.put, Xa, Xb, Xc]; done) | (simp only [Xh, Act.put, Xa, Xb, Xc]; rfl)) (hJ6_13_14 (gb133) _ ⟨hHeld, (bb_5 BK126.out), (bb_5 BK127.out), (bb_5 BK128.out), (bb_5 BK133.out), GW133.out, GE133.out, NB126_133.out, NB133_126.out, NB127_133.out, NB133_127.out, NB128_133.out, NB133_128.out, (hb_5 HB.out)⟩)
       ·skip
        refine box_step ?hg (N := 6) ?hd (cs := #[.int .i64 0, .int .i64 0]) (t := 23) ?hr ?_; (case hd => rfl); (case hg => rfl); (case hr => first | (go_simp; done) | (go_simp; rfl))
        intro gb134 hg w16 hbox hb
        have n0_ := Za (Xf (g := gb126) (o := .cells #[.int .i64 a0_0, .int .i64 a0_1, .int .i64 a0_2] 32 (0, 0)) (bb_5 BK126.out) hb)
        have n1_ := Za (Xf (g := gb127) (o := .cells #[.int .i64 a1_0, .int .i64 a1_1, .int .i64 a1_2, .int .i64 a1_3] 37 (0, 0)) (bb_5 BK127.out) hb)
        have n2_ := Za (Xf (g := gb128) (o := .cells #[.int .i64 0, .int .i64 0, .int .i64 0, .int .i64 0] 37 (0, 0)) (bb_5 BK128.out) hb)
        have n3_ := Za (Xf (g := gb133) (o := .cells #[.int .i64 0, .int .i64 0] 23 (0, 0)) (bb_5 BK133.out) hb)
        have n4_ := Za (below_step (hb_5 HB.out) hb)
        have n5_ := Za (hbox)
        have n6_ := Za ((by rw [hg]; exact (Xi (hb_5 HB.out)) : w.heap.size ≤ gb134))
        have n7_ := Za ((by rw [hg]; exact (Xi (hb_5 HB.out)) : w.heap.size ≤ gb134))
        have n8_ := Za ((by rw [hg]; exact Nat.ne_of_lt (Xg (g := gb126) (o := .cells #[.int .i64 a0_0, .int .i64 a0_1, .int .i64 a0_2] 32 (0, 0)) (bb_5 BK126.out)) : gb126 ≠ gb134))
        have n9_ := Za ((by rw [hg]; exact Nat.ne_of_gt (Xg (g := gb126) (o := .cells #[.int .i64 a0_0, .int .i64 a0_1, .int .i64 a0_2] 32 (0, 0)) (bb_5 BK126.out)) : gb134 ≠ gb126))
        have n10_ := Za ((by rw [hg]; exact Nat.ne_of_lt (Xg (g := gb127) (o := .cells #[.int .i64 a1_0, .int .i64 a1_1, .int .i64 a1_2, .int .i64 a1_3] 37 (0, 0)) (bb_5 BK127.out)) : gb127 ≠ gb134))
        have n11_ := Za ((by rw [hg]; exact Nat.ne_of_gt (Xg (g := gb127) (o := .cells #[.int .i64 a1_0, .int .i64 a1_1, .int .i64 a1_2, .int .i64 a1_3] 37 (0, 0)) (bb_5 BK127.out)) : gb134 ≠ gb127))
        have n12_ := Za ((by rw [hg]; exact Nat.ne_of_lt (Xg (g := gb128) (o := .cells #[.int .i64 0, .int .i64 0, .int .i64 0, .int .i64 0] 37 (0, 0)) (bb_5 BK128.out)) : gb128 ≠ gb134))
        have n13_ := Za ((by rw [hg]; exact Nat.ne_of_gt (Xg (g := gb128) (o := .cells #[.int .i64 0, .int .i64 0, .int .i64 0, .int .i64 0] 37 (0, 0)) (bb_5 BK128.out)) : gb134 ≠ gb128))
        have n14_ := Za ((by rw [hg]; exact Nat.ne_of_lt (Xg (g := gb133) (o := .cells #[.int .i64 0, .int .i64 0] 23 (0, 0)) (bb_5 BK133.out)) : gb133 ≠ gb134))
        have n15_ := Za ((by rw [hg]; exact Nat.ne_of_gt (Xg (g := gb133) (o := .cells #[.int .i64 0, .int .i64 0] 23 (0, 0)) (bb_5 BK133.out)) : gb134 ≠ gb133))
        clear BK126
        clear BK127
        clear BK128
        clear BK133
        clear HB
        have BK126 := n0_
        have BK127 := n1_
        have BK128 := n2_
        have BK133 := n3_
        have HB := n4_
        have BK134 := n5_
        have GW134 := n6_
        have GE134 := n7_
        have NB126_134 := n8_
        have NB134_126 := n9_
        have NB127_134 := n10_
        have NB134_127 := n11_
        have NB128_134 := n12_
        have NB134_128 := n13_
        have NB133_134 := n14_
        have NB134_133 := n15_
        clear n0_ n1_ n2_ n3_ n4_ n5_ n6_ n7_ n8_ n9_ n10_ n11_ n12_ n13_ n14_ n15_
        clear hb hbox hg
        refine hK.out _ _ ⟨(Xd BK126.out 0).trans rfl, (Xd BK126.out 1).trans rfl, (Xd BK126.out 2).trans rfl, (Xd BK127.out 0).trans rfl, (Xd BK127.out 1).trans rfl, (Xd BK127.out 2).trans rfl, (Xd BK127.out 3).trans rfl⟩ (fun hHeld => ?_)
        clear hK K
        refine norm_ (a' := ?_) ?_ ?_
        rotate_left
        ·show Act.put _ (some 6) _ = _
         simp only [Act.put, Xa, Xb, Xc, i64_w, i32_w]
         rfl
        exact norm_ (by first | (simp only [Xh, Act.put, Xa, Xb, Xc]; done) | (simp only [Xh, Act.put, Xa, Xb, Xc]; rfl)) (hJ6_14_15 (gb133, gb134) _ ⟨hHeld, (bb_5 BK126.out), (bb_5 BK127.out), (bb_5 BK128.out), (bb_5 BK133.out), (bb_5 BK134.out), GW133.out, GE133.out, NB126_133.out, NB133_126.out, NB127_133.out, NB133_127.out, NB128_133.out, NB133_128.out, NB134_133.out, NB133_134.out, GW134.out, GE134.out, NB126_134.out, NB134_126.out, NB127_134.out, NB134_127.out, NB128_134.out, NB134_128.out, (hb_5 HB.out)⟩)
     ·skip
      rintro _ w15 ⟨hS_, h0_, h1_, h2_, h3_⟩
      have n0_ : Xe (w15.heap[gb126]? = some (.cells #[.int .i64 a0_0, .int .i64 a0_1, .int .i64 a0_2] 32 (0, 0))) := ⟨h0_⟩
      have n1_ : Xe (w15.heap[gb127]? = some (.cells #[.int .i64 a1_0, .int .i64 a1_1, .int .i64 a1_2, .int .i64 a1_3] 37 (0, 0))) := ⟨h1_⟩
      have n2_ : Xe (w15.heap[gb128]? = some (.cells #[.int .i64 0, .int .i64 0, .int .i64 0, .int .i64 0] 37 (0, 0))) := ⟨h2_⟩
      have n3_ : Xe (Below w.heap.size w w15) := ⟨h3_⟩
      clear BK126
      clear BK127
      clear BK128
      clear HB
      clear h0_ h1_ h2_ h3_
      have BK126 := n0_
      have BK127 := n1_
      have BK128 := n2_
      have HB := n3_
      clear n0_ n1_ n2_ n3_
      have hHeld : w15.cell? ⟨gb126, 0, none⟩ = some (.int .i64 a0_0) ∧ w15.cell? ⟨gb126, 1, none⟩ = some (.int .i64 a0_1) ∧ w15.cell? ⟨gb126, 2, none⟩ = some (.int .i64 a0_2) ∧ w15.cell? ⟨gb127, 0, none⟩ = some (.int .i64 a1_0) ∧ w15.cell? ⟨gb127, 1, none⟩ = some (.int .i64 a1_1) ∧ w15.cell? ⟨gb127, 2, none⟩ = some (.int .i64 a1_2) ∧ w15.cell? ⟨gb127, 3, none⟩ = some (.int .i64 a1_3) := hS_
      refine norm_ (a' := ?_) ?_ ?_
      rotate_left
      ·simp only [Xh, Act.put, Xa, Xb, Xc]
       rfl
      refine two_ (i := 14) (j := 15) (Ni := some 5) (Nj := some 6) #[Zt,Zt,Zt,Zt,Zt,Zt,Zt,Zt,Zt,Zt,Zt,Zt,Zt,Zt,Zt,Zf,Zf,Zf] #[Zt,Zt,Zt,Zt,Zt,Zt,Zt,Zt,Zt,Zt,Zt,Zt,Zt,Zt,Zf,Zt,Zf,Zf] rfl rfl rfl rfl (two_of HT_.out (by kernel_rfl)) (by decide) (by decide) (fun K hK => ?_) (fun K hK => ?_)
      ·skip
       refine box_step ?hg (N := 5) ?hd (cs := #[.int .i64 0, .int .i64 0]) (t := 23) ?hr ?_; (case hd => rfl); (case hg => rfl); (case hr => first | (go_simp; done) | (go_simp; rfl))
       intro gb133 hg w16 hbox hb
       have n0_ := Za (Xf (g := gb126) (o := .cells #[.int .i64 a0_0, .int .i64 a0_1, .int .i64 a0_2] 32 (0, 0)) (bb_5 BK126.out) hb)
       have n1_ := Za (Xf (g := gb127) (o := .cells #[.int .i64 a1_0, .int .i64 a1_1, .int .i64 a1_2, .int .i64 a1_3] 37 (0, 0)) (bb_5 BK127.out) hb)
       have n2_ := Za (Xf (g := gb128) (o := .cells #[.int .i64 0, .int .i64 0, .int .i64 0, .int .i64 0] 37 (0, 0)) (bb_5 BK128.out) hb)
       have n3_ := Za (below_step (hb_5 HB.out) hb)
       have n4_ := Za (hbox)
       have n5_ := Za ((by rw [hg]; exact (Xi (hb_5 HB.out)) : w.heap.size ≤ gb133))
       have n6_ := Za ((by rw [hg]; exact (Xi (hb_5 HB.out)) : w.heap.size ≤ gb133))
       have n7_ := Za ((by rw [hg]; exact Nat.ne_of_lt (Xg (g := gb126) (o := .cells #[.int .i64 a0_0, .int .i64 a0_1, .int .i64 a0_2] 32 (0, 0)) (bb_5 BK126.out)) : gb126 ≠ gb133))
       have n8_ := Za ((by rw [hg]; exact Nat.ne_of_gt (Xg (g := gb126) (o := .cells #[.int .i64 a0_0, .int .i64 a0_1, .int .i64 a0_2] 32 (0, 0)) (bb_5 BK126.out)) : gb133 ≠ gb126))
       have n9_ := Za ((by rw [hg]; exact Nat.ne_of_lt (Xg (g := gb127) (o := .cells #[.int .i64 a1_0, .int .i64 a1_1, .int .i64 a1_2, .int .i64 a1_3] 37 (0, 0)) (bb_5 BK127.out)) : gb127 ≠ gb133))
       have n10_ := Za ((by rw [hg]; exact Nat.ne_of_gt (Xg (g := gb127) (o := .cells #[.int .i64 a1_0, .int .i64 a1_1, .int .i64 a1_2, .int .i64 a1_3] 37 (0, 0)) (bb_5 BK127.out)) : gb133 ≠ gb127))
       have n11_ := Za ((by rw [hg]; exact Nat.ne_of_lt (Xg (g := gb128) (o := .cells #[.int .i64 0, .int .i64 0, .int .i64 0, .int .i64 0] 37 (0, 0)) (bb_5 BK128.out)) : gb128 ≠ gb133))
       have n12_ := Za ((by rw [hg]; exact Nat.ne_of_gt (Xg (g := gb128) (o := .cells #[.int .i64 0, .int .i64 0, .int .i64 0, .int .i64 0] 37 (0, 0)) (bb_5 BK128.out)) : gb133 ≠ gb128))
       clear BK126
       clear BK127
       clear BK128
       clear HB
       have BK126 := n0_
       have BK127 := n1_
       have BK128 := n2_
       have HB := n3_
       have BK133 := n4_
       have GW133 := n5_
       have GE133 := n6_
       have NB126_133 := n7_
       have NB133_126 := n8_
       have NB127_133 := n9_
       have NB133_127 := n10_
       have NB128_133 := n11_
       have NB133_128 := n12_
       clear n0_ n1_ n2_ n3_ n4_ n5_ n6_ n7_ n8_ n9_ n10_ n11_ n12_
       clear hb hbox hg
       refine hK.out _ _ ⟨(Xd BK126.out 0).trans rfl, (Xd BK126.out 1).trans rfl, (Xd BK126.out 2).trans rfl, (Xd BK127.out 0).trans rfl, (Xd BK127.out 1).trans rfl, (Xd BK127.out 2).trans rfl, (Xd BK127.out 3).trans rfl⟩ (fun hHeld => ?_)
       clear hK K
       refine norm_ (a' := ?_) ?_ ?_
       rotate_left
       ·show Act.put _ (some 5) _ = _
        simp only [Act.put, Xa, Xb, Xc, i64_w, i32_w]
        rfl
       exact norm_ (by first | (simp only [Xh, Act.put, Xa, Xb, Xc]; done) | (simp only [Xh, Act.put, Xa, Xb, Xc]; rfl)) (hJ6_13_14 (gb133) _ ⟨hHeld, (bb_5 BK126.out), (bb_5 BK127.out), (bb_5 BK128.out), (bb_5 BK133.out), GW133.out, GE133.out, NB126_133.out, NB133_126.out, NB127_133.out, NB133_127.out, NB128_133.out, NB133_128.out, (hb_5 HB.out)⟩)
      ·skip
       refine box_step ?hg (N := 6) ?hd (cs := #[.int .i64 0, .int .i64 0]) (t := 23) ?hr ?_; (case hd => rfl); (case hg => rfl); (case hr => first | (go_simp; done) | (go_simp; rfl))
       intro gb134 hg w16 hbox hb
       have n0_ := Za (Xf (g := gb126) (o := .cells #[.int .i64 a0_0, .int .i64 a0_1, .int .i64 a0_2] 32 (0, 0)) (bb_5 BK126.out) hb)
       have n1_ := Za (Xf (g := gb127) (o := .cells #[.int .i64 a1_0, .int .i64 a1_1, .int .i64 a1_2, .int .i64 a1_3] 37 (0, 0)) (bb_5 BK127.out) hb)
       have n2_ := Za (Xf (g := gb128) (o := .cells #[.int .i64 0, .int .i64 0, .int .i64 0, .int .i64 0] 37 (0, 0)) (bb_5 BK128.out) hb)
       have n3_ := Za (below_step (hb_5 HB.out) hb)
       have n4_ := Za (hbox)
       have n5_ := Za ((by rw [hg]; exact (Xi (hb_5 HB.out)) : w.heap.size ≤ gb134))
       have n6_ := Za ((by rw [hg]; exact (Xi (hb_5 HB.out)) : w.heap.size ≤ gb134))
       have n7_ := Za ((by rw [hg]; exact Nat.ne_of_lt (Xg (g := gb126) (o := .cells #[.int .i64 a0_0, .int .i64 a0_1, .int .i64 a0_2] 32 (0, 0)) (bb_5 BK126.out)) : gb126 ≠ gb134))
       have n8_ := Za ((by rw [hg]; exact Nat.ne_of_gt (Xg (g := gb126) (o := .cells #[.int .i64 a0_0, .int .i64 a0_1, .int .i64 a0_2] 32 (0, 0)) (bb_5 BK126.out)) : gb134 ≠ gb126))
       have n9_ := Za ((by rw [hg]; exact Nat.ne_of_lt (Xg (g := gb127) (o := .cells #[.int .i64 a1_0, .int .i64 a1_1, .int .i64 a1_2, .int .i64 a1_3] 37 (0, 0)) (bb_5 BK127.out)) : gb127 ≠ gb134))
       have n10_ := Za ((by rw [hg]; exact Nat.ne_of_gt (Xg (g := gb127) (o := .cells #[.int .i64 a1_0, .int .i64 a1_1, .int .i64 a1_2, .int .i64 a1_3] 37 (0, 0)) (bb_5 BK127.out)) : gb134 ≠ gb127))
       have n11_ := Za ((by rw [hg]; exact Nat.ne_of_lt (Xg (g := gb128) (o := .cells #[.int .i64 0, .int .i64 0, .int .i64 0, .int .i64 0] 37 (0, 0)) (bb_5 BK128.out)) : gb128 ≠ gb134))
       have n12_ := Za ((by rw [hg]; exact Nat.ne_of_gt (Xg (g := gb128) (o := .cells #[.int .i64 0, .int .i64 0, .int .i64 0, .int .i64 0] 37 (0, 0)) (bb_5 BK128.out)) : gb134 ≠ gb128))
       clear BK126
       clear BK127
       clear BK128
       clear HB
       have BK126 := n0_
       have BK127 := n1_
       have BK128 := n2_
       have HB := n3_
       have BK134 := n4_
       have GW134 := n5_
       have GE134 := n6_
       have NB126_134 := n7_
       have NB134_126 := n8_
       have NB127_134 := n9_
       have NB134_127 := n10_
       have NB128_134 := n11_
       have NB134_128 := n12_
       clear n0_ n1_ n2_ n3_ n4_ n5_ n6_ n7_ n8_ n9_ n10_ n11_ n12_
       clear hb hbox hg
       refine hK.out _ _ ⟨(Xd BK126.out 0).trans rfl, (Xd BK126.out 1).trans rfl, (Xd BK126.out 2).trans rfl, (Xd BK127.out 0).trans rfl, (Xd BK127.out 1).trans rfl, (Xd BK127.out 2).trans rfl, (Xd BK127.out 3).trans rfl⟩ (fun hHeld => ?_)
       clear hK K
       refine norm_ (a' := ?_) ?_ ?_
       rotate_left
       ·show Act.put _ (some 6) _ = _
        simp only [Act.put, Xa, Xb, Xc, i64_w, i32_w]
        rfl
       exact norm_ (by first | (simp only [Xh, Act.put, Xa, Xb, Xc]; done) | (simp only [Xh, Act.put, Xa, Xb, Xc]; rfl)) (hJ6_13_15 (gb134) _ ⟨hHeld, (bb_5 BK126.out), (bb_5 BK127.out), (bb_5 BK128.out), (bb_5 BK134.out), GW134.out, GE134.out, NB126_134.out, NB134_126.out, NB127_134.out, NB134_127.out, NB128_134.out, NB134_128.out, (hb_5 HB.out)⟩)
    ·skip
     rintro ⟨gb133, gb134⟩ w16 ⟨hS_, h0_, h1_, h2_, h3_, h4_, h5_, h6_, h7_, h8_, h9_, h10_, h11_, h12_, h13_, h14_, h15_, h16_, h17_, h18_, h19_, h20_, h21_, h22_, h23_⟩
     have n0_ : Xe (w16.heap[gb126]? = some (.cells #[.int .i64 a0_0, .int .i64 a0_1, .int .i64 a0_2] 32 (0, 0))) := ⟨h0_⟩
     have n1_ : Xe (w16.heap[gb127]? = some (.cells #[.int .i64 a1_0, .int .i64 a1_1, .int .i64 a1_2, .int .i64 a1_3] 37 (0, 0))) := ⟨h1_⟩
     have n2_ : Xe (w16.heap[gb128]? = some (.cells #[.int .i64 0, .int .i64 0, .int .i64 0, .int .i64 0] 37 (0, 0))) := ⟨h2_⟩
     have n3_ : Xe (w16.heap[gb133]? = some (.cells #[.int .i64 0, .int .i64 0] 23 (0, 0))) := ⟨h3_⟩
     have n4_ : Xe (w16.heap[gb134]? = some (.cells #[.int .i64 0, .int .i64 0] 23 (0, 0))) := ⟨h4_⟩
     have n5_ : Xe (w.heap.size ≤ gb133) := ⟨h5_⟩
     have n6_ : Xe (w.heap.size ≤ gb133) := ⟨h6_⟩
     have n7_ : Xe (gb126 ≠ gb133) := ⟨h7_⟩
     have n8_ : Xe (gb133 ≠ gb126) := ⟨h8_⟩
     have n9_ : Xe (gb127 ≠ gb133) := ⟨h9_⟩
     have n10_ : Xe (gb133 ≠ gb127) := ⟨h10_⟩
     have n11_ : Xe (gb128 ≠ gb133) := ⟨h11_⟩
     have n12_ : Xe (gb133 ≠ gb128) := ⟨h12_⟩
     have n13_ : Xe (gb134 ≠ gb133) := ⟨h13_⟩
     have n14_ : Xe (gb133 ≠ gb134) := ⟨h14_⟩
     have n15_ : Xe (w.heap.size ≤ gb134) := ⟨h15_⟩
     have n16_ : Xe (w.heap.size ≤ gb134) := ⟨h16_⟩
     have n17_ : Xe (gb126 ≠ gb134) := ⟨h17_⟩
     have n18_ : Xe (gb134 ≠ gb126) := ⟨h18_⟩
     have n19_ : Xe (gb127 ≠ gb134) := ⟨h19_⟩
     have n20_ : Xe (gb134 ≠ gb127) := ⟨h20_⟩
     have n21_ : Xe (gb128 ≠ gb134) := ⟨h21_⟩
     have n22_ : Xe (gb134 ≠ gb128) := ⟨h22_⟩
     have n23_ : Xe (Below w.heap.size w w16) := ⟨h23_⟩
     clear BK126
     clear BK127
     clear BK128
     clear HB
     clear h0_ h1_ h2_ h3_ h4_ h5_ h6_ h7_ h8_ h9_ h10_ h11_ h12_ h13_ h14_ h15_ h16_ h17_ h18_ h19_ h20_ h21_ h22_ h23_
     have BK126 := n0_
     have BK127 := n1_
     have BK128 := n2_
     have BK133 := n3_
     have BK134 := n4_
     have GW133 := n5_
     have GE133 := n6_
     have NB126_133 := n7_
     have NB133_126 := n8_
     have NB127_133 := n9_
     have NB133_127 := n10_
     have NB128_133 := n11_
     have NB133_128 := n12_
     have NB134_133 := n13_
     have NB133_134 := n14_
     have GW134 := n15_
     have GE134 := n16_
     have NB126_134 := n17_
     have NB134_126 := n18_
     have NB127_134 := n19_
     have NB134_127 := n20_
     have NB128_134 := n21_
     have NB134_128 := n22_
     have HB := n23_
     clear n0_ n1_ n2_ n3_ n4_ n5_ n6_ n7_ n8_ n9_ n10_ n11_ n12_ n13_ n14_ n15_ n16_ n17_ n18_ n19_ n20_ n21_ n22_ n23_
     have hHeld : w16.cell? ⟨gb126, 0, none⟩ = some (.int .i64 a0_0) ∧ w16.cell? ⟨gb126, 1, none⟩ = some (.int .i64 a0_1) ∧ w16.cell? ⟨gb126, 2, none⟩ = some (.int .i64 a0_2) ∧ w16.cell? ⟨gb127, 0, none⟩ = some (.int .i64 a1_0) ∧ w16.cell? ⟨gb127, 1, none⟩ = some (.int .i64 a1_1) ∧ w16.cell? ⟨gb127, 2, none⟩ = some (.int .i64 a1_2) ∧ w16.cell? ⟨gb127, 3, none⟩ = some (.int .i64 a1_3) := hS_
     refine norm_ (a' := ?_) ?_ ?_
     rotate_left
     ·simp only [Xh, Act.put, Xa, Xb, Xc]
      rfl
     refine one_ (i := 13) (N := some 20) #[Zt,Zt,Zt,Zt,Zt,Zt,Zt,Zt,Zt,Zt,Zt,Zt,Zt,Zt,Zt,Zt,Zf,Zf] rfl rfl (one_of HT_.out (by kernel_rfl)) (by decide) (fun K hK => ?_)
     refine goes_ Try.func97 (by kernel_rfl) rfl #[.agg #[.int .i64 a0_0, .int .i64 a0_1, .int .i64 a0_2], .agg #[.int .i64 a1_2, .int .i64 a1_3]] (by rfl) rfl rfl (by (try simp only [List.map_toArray, List.map_cons, List.map_nil]); first | done | rfl | (simp only [List.length_drop, List.length_take]; rfl)) ?_
     with_reducible refine (place_Do.calls k a0_0 a0_1 a0_2 a1_2 a1_3 t131 t132 _ A4.out).mono ?_
     rintro e w17 ⟨rfl, hb⟩
     refine ⟨_, rfl, ?_⟩
     have n0_ := Za (Xf (g := gb126) (o := .cells #[.int .i64 a0_0, .int .i64 a0_1, .int .i64 a0_2] 32 (0, 0)) (bb_5 BK126.out) hb)
     have n1_ := Za (Xf (g := gb127) (o := .cells #[.int .i64 a1_0, .int .i64 a1_1, .int .i64 a1_2, .int .i64 a1_3] 37 (0, 0)) (bb_5 BK127.out) hb)
     have n2_ := Za (Xf (g := gb128) (o := .cells #[.int .i64 0, .int .i64 0, .int .i64 0, .int .i64 0] 37 (0, 0)) (bb_5 BK128.out) hb)
     have n3_ := Za (Xf (g := gb133) (o := .cells #[.int .i64 0, .int .i64 0] 23 (0, 0)) (bb_5 BK133.out) hb)
     have n4_ := Za (Xf (g := gb134) (o := .cells #[.int .i64 0, .int .i64 0] 23 (0, 0)) (bb_5 BK134.out) hb)
     have n5_ := Za (below_step (hb_5 HB.out) hb)
     clear BK126
     clear BK127
     clear BK128
     clear BK133
     clear BK134
     clear HB
     have BK126 := n0_
     have BK127 := n1_
     have BK128 := n2_
     have BK133 := n3_
     have BK134 := n4_
     have HB := n5_
     clear n0_ n1_ n2_ n3_ n4_ n5_
     (try clear hb)
     (try clear hb2)
     (try clear hk)
     (try clear hi)
     refine hK.out _ _ ⟨(Xd BK126.out 0).trans rfl, (Xd BK126.out 1).trans rfl, (Xd BK126.out 2).trans rfl, (Xd BK127.out 0).trans rfl, (Xd BK127.out 1).trans rfl, (Xd BK127.out 2).trans rfl, (Xd BK127.out 3).trans rfl⟩ (fun hHeld => ?_)
     clear hK K
     refine norm_ (a' := ?_) ?_ ?_
     rotate_left
     ·show Act.put _ (some 20) _ = _
      simp only [Act.put, Xa, Xb, Xc, i64_w, i32_w]
      rfl
     exact norm_ (by first | (simp only [Xh, Act.put, Xa, Xb, Xc]; done) | (simp only [Xh, Act.put, Xa, Xb, Xc]; rfl)) (hJ6_13_14_15 (gb133, gb134) _ ⟨hHeld, (bb_5 BK126.out), (bb_5 BK127.out), (bb_5 BK128.out), (bb_5 BK133.out), (bb_5 BK134.out), GW133.out, GE133.out, NB126_133.out, NB133_126.out, NB127_133.out, NB133_127.out, NB128_133.out, NB133_128.out, NB134_133.out, NB133_134.out, GW134.out, GE134.out, NB126_134.out, NB134_126.out, NB127_134.out, NB134_127.out, NB128_134.out, NB134_128.out, (hb_5 HB.out)⟩)
   ·skip
    rintro gb134 w16 ⟨hS_, h0_, h1_, h2_, h3_, h4_, h5_, h6_, h7_, h8_, h9_, h10_, h11_, h12_⟩
    have n0_ : Xe (w16.heap[gb126]? = some (.cells #[.int .i64 a0_0, .int .i64 a0_1, .int .i64 a0_2] 32 (0, 0))) := ⟨h0_⟩
    have n1_ : Xe (w16.heap[gb127]? = some (.cells #[.int .i64 a1_0, .int .i64 a1_1, .int .i64 a1_2, .int .i64 a1_3] 37 (0, 0))) := ⟨h1_⟩
    have n2_ : Xe (w16.heap[gb128]? = some (.cells #[.int .i64 0, .int .i64 0, .int .i64 0, .int .i64 0] 37 (0, 0))) := ⟨h2_⟩
    have n3_ : Xe (w16.heap[gb134]? = some (.cells #[.int .i64 0, .int .i64 0] 23 (0, 0))) := ⟨h3_⟩
    have n4_ : Xe (w.heap.size ≤ gb134) := ⟨h4_⟩
    have n5_ : Xe (w.heap.size ≤ gb134) := ⟨h5_⟩
    have n6_ : Xe (gb126 ≠ gb134) := ⟨h6_⟩
    have n7_ : Xe (gb134 ≠ gb126) := ⟨h7_⟩
    have n8_ : Xe (gb127 ≠ gb134) := ⟨h8_⟩
    have n9_ : Xe (gb134 ≠ gb127) := ⟨h9_⟩
    have n10_ : Xe (gb128 ≠ gb134) := ⟨h10_⟩
    have n11_ : Xe (gb134 ≠ gb128) := ⟨h11_⟩
    have n12_ : Xe (Below w.heap.size w w16) := ⟨h12_⟩
    clear BK126
    clear BK127
    clear BK128
    clear HB
    clear h0_ h1_ h2_ h3_ h4_ h5_ h6_ h7_ h8_ h9_ h10_ h11_ h12_
    have BK126 := n0_
    have BK127 := n1_
    have BK128 := n2_
    have BK134 := n3_
    have GW134 := n4_
    have GE134 := n5_
    have NB126_134 := n6_
    have NB134_126 := n7_
    have NB127_134 := n8_
    have NB134_127 := n9_
    have NB128_134 := n10_
    have NB134_128 := n11_
    have HB := n12_
    clear n0_ n1_ n2_ n3_ n4_ n5_ n6_ n7_ n8_ n9_ n10_ n11_ n12_
    have hHeld : w16.cell? ⟨gb126, 0, none⟩ = some (.int .i64 a0_0) ∧ w16.cell? ⟨gb126, 1, none⟩ = some (.int .i64 a0_1) ∧ w16.cell? ⟨gb126, 2, none⟩ = some (.int .i64 a0_2) ∧ w16.cell? ⟨gb127, 0, none⟩ = some (.int .i64 a1_0) ∧ w16.cell? ⟨gb127, 1, none⟩ = some (.int .i64 a1_1) ∧ w16.cell? ⟨gb127, 2, none⟩ = some (.int .i64 a1_2) ∧ w16.cell? ⟨gb127, 3, none⟩ = some (.int .i64 a1_3) := hS_
    refine norm_ (a' := ?_) ?_ ?_
    rotate_left
    ·simp only [Xh, Act.put, Xa, Xb, Xc]
     rfl
    refine one_ (i := 14) (N := some 5) #[Zt,Zt,Zt,Zt,Zt,Zt,Zt,Zt,Zt,Zt,Zt,Zt,Zt,Zt,Zt,Zt,Zf,Zf] rfl rfl (one_of HT_.out (by kernel_rfl)) (by decide) (fun K hK => ?_)
    refine box_step ?hg (N := 5) ?hd (cs := #[.int .i64 0, .int .i64 0]) (t := 23) ?hr ?_; (case hd => rfl); (case hg => rfl); (case hr => first | (go_simp; done) | (go_simp; rfl))
    intro gb133 hg w17 hbox hb
    have n0_ := Za (Xf (g := gb126) (o := .cells #[.int .i64 a0_0, .int .i64 a0_1, .int .i64 a0_2] 32 (0, 0)) (bb_5 BK126.out) hb)
    have n1_ := Za (Xf (g := gb127) (o := .cells #[.int .i64 a1_0, .int .i64 a1_1, .int .i64 a1_2, .int .i64 a1_3] 37 (0, 0)) (bb_5 BK127.out) hb)
    have n2_ := Za (Xf (g := gb128) (o := .cells #[.int .i64 0, .int .i64 0, .int .i64 0, .int .i64 0] 37 (0, 0)) (bb_5 BK128.out) hb)
    have n3_ := Za (Xf (g := gb134) (o := .cells #[.int .i64 0, .int .i64 0] 23 (0, 0)) (bb_5 BK134.out) hb)
    have n4_ := Za (below_step (hb_5 HB.out) hb)
    have n5_ := Za (hbox)
    have n6_ := Za ((by rw [hg]; exact (Xi (hb_5 HB.out)) : w.heap.size ≤ gb133))
    have n7_ := Za ((by rw [hg]; exact (Xi (hb_5 HB.out)) : w.heap.size ≤ gb133))
    have n8_ := Za ((by rw [hg]; exact Nat.ne_of_lt (Xg (g := gb126) (o := .cells #[.int .i64 a0_0, .int .i64 a0_1, .int .i64 a0_2] 32 (0, 0)) (bb_5 BK126.out)) : gb126 ≠ gb133))
    have n9_ := Za ((by rw [hg]; exact Nat.ne_of_gt (Xg (g := gb126) (o := .cells #[.int .i64 a0_0, .int .i64 a0_1, .int .i64 a0_2] 32 (0, 0)) (bb_5 BK126.out)) : gb133 ≠ gb126))
    have n10_ := Za ((by rw [hg]; exact Nat.ne_of_lt (Xg (g := gb127) (o := .cells #[.int .i64 a1_0, .int .i64 a1_1, .int .i64 a1_2, .int .i64 a1_3] 37 (0, 0)) (bb_5 BK127.out)) : gb127 ≠ gb133))
    have n11_ := Za ((by rw [hg]; exact Nat.ne_of_gt (Xg (g := gb127) (o := .cells #[.int .i64 a1_0, .int .i64 a1_1, .int .i64 a1_2, .int .i64 a1_3] 37 (0, 0)) (bb_5 BK127.out)) : gb133 ≠ gb127))
    have n12_ := Za ((by rw [hg]; exact Nat.ne_of_lt (Xg (g := gb128) (o := .cells #[.int .i64 0, .int .i64 0, .int .i64 0, .int .i64 0] 37 (0, 0)) (bb_5 BK128.out)) : gb128 ≠ gb133))
    have n13_ := Za ((by rw [hg]; exact Nat.ne_of_gt (Xg (g := gb128) (o := .cells #[.int .i64 0, .int .i64 0, .int .i64 0, .int .i64 0] 37 (0, 0)) (bb_5 BK128.out)) : gb133 ≠ gb128))
    have n14_ := Za ((by rw [hg]; exact Nat.ne_of_lt (Xg (g := gb134) (o := .cells #[.int .i64 0, .int .i64 0] 23 (0, 0)) (bb_5 BK134.out)) : gb134 ≠ gb133))
    have n15_ := Za ((by rw [hg]; exact Nat.ne_of_gt (Xg (g := gb134) (o := .cells #[.int .i64 0, .int .i64 0] 23 (0, 0)) (bb_5 BK134.out)) : gb133 ≠ gb134))
    clear BK126
    clear BK127
    clear BK128
    clear BK134
    clear HB
    have BK126 := n0_
    have BK127 := n1_
    have BK128 := n2_
    have BK134 := n3_
    have HB := n4_
    have BK133 := n5_
    have GW133 := n6_
    have GE133 := n7_
    have NB126_133 := n8_
    have NB133_126 := n9_
    have NB127_133 := n10_
    have NB133_127 := n11_
    have NB128_133 := n12_
    have NB133_128 := n13_
    have NB134_133 := n14_
    have NB133_134 := n15_
    clear n0_ n1_ n2_ n3_ n4_ n5_ n6_ n7_ n8_ n9_ n10_ n11_ n12_ n13_ n14_ n15_
    clear hb hbox hg
    refine hK.out _ _ ⟨(Xd BK126.out 0).trans rfl, (Xd BK126.out 1).trans rfl, (Xd BK126.out 2).trans rfl, (Xd BK127.out 0).trans rfl, (Xd BK127.out 1).trans rfl, (Xd BK127.out 2).trans rfl, (Xd BK127.out 3).trans rfl⟩ (fun hHeld => ?_)
    clear hK K
    refine norm_ (a' := ?_) ?_ ?_
    rotate_left
    ·show Act.put _ (some 5) _ = _
     simp only [Act.put, Xa, Xb, Xc, i64_w, i32_w]
     rfl
    exact norm_ (by first | (simp only [Xh, Act.put, Xa, Xb, Xc]; done) | (simp only [Xh, Act.put, Xa, Xb, Xc]; rfl)) (hJ6_13_14_15 (gb133, gb134) _ ⟨hHeld, (bb_5 BK126.out), (bb_5 BK127.out), (bb_5 BK128.out), (bb_5 BK133.out), (bb_5 BK134.out), GW133.out, GE133.out, NB126_133.out, NB133_126.out, NB127_133.out, NB133_127.out, NB128_133.out, NB133_128.out, NB134_133.out, NB133_134.out, GW134.out, GE134.out, NB126_134.out, NB134_126.out, NB127_134.out, NB134_127.out, NB128_134.out, NB134_128.out, (hb_5 HB.out)⟩)
  ·skip
   rintro gb133 w16 ⟨hS_, h0_, h1_, h2_, h3_, h4_, h5_, h6_, h7_, h8_, h9_, h10_, h11_, h12_⟩
   have n0_ : Xe (w16.heap[gb126]? = some (.cells #[.int .i64 a0_0, .int .i64 a0_1, .int .i64 a0_2] 32 (0, 0))) := ⟨h0_⟩
   have n1_ : Xe (w16.heap[gb127]? = some (.cells #[.int .i64 a1_0, .int .i64 a1_1, .int .i64 a1_2, .int .i64 a1_3] 37 (0, 0))) := ⟨h1_⟩
   have n2_ : Xe (w16.heap[gb128]? = some (.cells #[.int .i64 0, .int .i64 0, .int .i64 0, .int .i64 0] 37 (0, 0))) := ⟨h2_⟩
   have n3_ : Xe (w16.heap[gb133]? = some (.cells #[.int .i64 0, .int .i64 0] 23 (0, 0))) := ⟨h3_⟩
   have n4_ : Xe (w.heap.size ≤ gb133) := ⟨h4_⟩
   have n5_ : Xe (w.heap.size ≤ gb133) := ⟨h5_⟩
   have n6_ : Xe (gb126 ≠ gb133) := ⟨h6_⟩
   have n7_ : Xe (gb133 ≠ gb126) := ⟨h7_⟩
   have n8_ : Xe (gb127 ≠ gb133) := ⟨h8_⟩
   have n9_ : Xe (gb133 ≠ gb127) := ⟨h9_⟩
   have n10_ : Xe (gb128 ≠ gb133) := ⟨h10_⟩
   have n11_ : Xe (gb133 ≠ gb128) := ⟨h11_⟩
   have n12_ : Xe (Below w.heap.size w w16) := ⟨h12_⟩
   clear BK126
   clear BK127
   clear BK128
   clear HB
   clear h0_ h1_ h2_ h3_ h4_ h5_ h6_ h7_ h8_ h9_ h10_ h11_ h12_
   have BK126 := n0_
   have BK127 := n1_
   have BK128 := n2_
   have BK133 := n3_
   have GW133 := n4_
   have GE133 := n5_
   have NB126_133 := n6_
   have NB133_126 := n7_
   have NB127_133 := n8_
   have NB133_127 := n9_
   have NB128_133 := n10_
   have NB133_128 := n11_
   have HB := n12_
   clear n0_ n1_ n2_ n3_ n4_ n5_ n6_ n7_ n8_ n9_ n10_ n11_ n12_
   have hHeld : w16.cell? ⟨gb126, 0, none⟩ = some (.int .i64 a0_0) ∧ w16.cell? ⟨gb126, 1, none⟩ = some (.int .i64 a0_1) ∧ w16.cell? ⟨gb126, 2, none⟩ = some (.int .i64 a0_2) ∧ w16.cell? ⟨gb127, 0, none⟩ = some (.int .i64 a1_0) ∧ w16.cell? ⟨gb127, 1, none⟩ = some (.int .i64 a1_1) ∧ w16.cell? ⟨gb127, 2, none⟩ = some (.int .i64 a1_2) ∧ w16.cell? ⟨gb127, 3, none⟩ = some (.int .i64 a1_3) := hS_
   refine norm_ (a' := ?_) ?_ ?_
   rotate_left
   ·simp only [Xh, Act.put, Xa, Xb, Xc]
    rfl
   refine one_ (i := 15) (N := some 6) #[Zt,Zt,Zt,Zt,Zt,Zt,Zt,Zt,Zt,Zt,Zt,Zt,Zt,Zt,Zt,Zt,Zf,Zf] rfl rfl (one_of HT_.out (by kernel_rfl)) (by decide) (fun K hK => ?_)
   refine box_step ?hg (N := 6) ?hd (cs := #[.int .i64 0, .int .i64 0]) (t := 23) ?hr ?_; (case hd => rfl); (case hg => rfl); (case hr => first | (go_simp; done) | (go_simp; rfl))
   intro gb134 hg w17 hbox hb
   have n0_ := Za (Xf (g := gb126) (o := .cells #[.int .i64 a0_0, .int .i64 a0_1, .int .i64 a0_2] 32 (0, 0)) (bb_5 BK126.out) hb)
   have n1_ := Za (Xf (g := gb127) (o := .cells #[.int .i64 a1_0, .int .i64 a1_1, .int .i64 a1_2, .int .i64 a1_3] 37 (0, 0)) (bb_5 BK127.out) hb)
   have n2_ := Za (Xf (g := gb128) (o := .cells #[.int .i64 0, .int .i64 0, .int .i64 0, .int .i64 0] 37 (0, 0)) (bb_5 BK128.out) hb)
   have n3_ := Za (Xf (g := gb133) (o := .cells #[.int .i64 0, .int .i64 0] 23 (0, 0)) (bb_5 BK133.out) hb)
   have n4_ := Za (below_step (hb_5 HB.out) hb)
   have n5_ := Za (hbox)
   have n6_ := Za ((by rw [hg]; exact (Xi (hb_5 HB.out)) : w.heap.size ≤ gb134))
   have n7_ := Za ((by rw [hg]; exact (Xi (hb_5 HB.out)) : w.heap.size ≤ gb134))
   have n8_ := Za ((by rw [hg]; exact Nat.ne_of_lt (Xg (g := gb126) (o := .cells #[.int .i64 a0_0, .int .i64 a0_1, .int .i64 a0_2] 32 (0, 0)) (bb_5 BK126.out)) : gb126 ≠ gb134))
   have n9_ := Za ((by rw [hg]; exact Nat.ne_of_gt (Xg (g := gb126) (o := .cells #[.int .i64 a0_0, .int .i64 a0_1, .int .i64 a0_2] 32 (0, 0)) (bb_5 BK126.out)) : gb134 ≠ gb126))
   have n10_ := Za ((by rw [hg]; exact Nat.ne_of_lt (Xg (g := gb127) (o := .cells #[.int .i64 a1_0, .int .i64 a1_1, .int .i64 a1_2, .int .i64 a1_3] 37 (0, 0)) (bb_5 BK127.out)) : gb127 ≠ gb134))
   have n11_ := Za ((by rw [hg]; exact Nat.ne_of_gt (Xg (g := gb127) (o := .cells #[.int .i64 a1_0, .int .i64 a1_1, .int .i64 a1_2, .int .i64 a1_3] 37 (0, 0)) (bb_5 BK127.out)) : gb134 ≠ gb127))
   have n12_ := Za ((by rw [hg]; exact Nat.ne_of_lt (Xg (g := gb128) (o := .cells #[.int .i64 0, .int .i64 0, .int .i64 0, .int .i64 0] 37 (0, 0)) (bb_5 BK128.out)) : gb128 ≠ gb134))
   have n13_ := Za ((by rw [hg]; exact Nat.ne_of_gt (Xg (g := gb128) (o := .cells #[.int .i64 0, .int .i64 0, .int .i64 0, .int .i64 0] 37 (0, 0)) (bb_5 BK128.out)) : gb134 ≠ gb128))
   have n14_ := Za ((by rw [hg]; exact Nat.ne_of_lt (Xg (g := gb133) (o := .cells #[.int .i64 0, .int .i64 0] 23 (0, 0)) (bb_5 BK133.out)) : gb133 ≠ gb134))
   have n15_ := Za ((by rw [hg]; exact Nat.ne_of_gt (Xg (g := gb133) (o := .cells #[.int .i64 0, .int .i64 0] 23 (0, 0)) (bb_5 BK133.out)) : gb134 ≠ gb133))
   clear BK126
   clear BK127
   clear BK128
   clear BK133
   clear HB
   have BK126 := n0_
   have BK127 := n1_
   have BK128 := n2_
   have BK133 := n3_
   have HB := n4_
   have BK134 := n5_
   have GW134 := n6_
   have GE134 := n7_
   have NB126_134 := n8_
   have NB134_126 := n9_
   have NB127_134 := n10_
   have NB134_127 := n11_
   have NB128_134 := n12_
   have NB134_128 := n13_
   have NB133_134 := n14_
   have NB134_133 := n15_
   clear n0_ n1_ n2_ n3_ n4_ n5_ n6_ n7_ n8_ n9_ n10_ n11_ n12_ n13_ n14_ n15_
   clear hb hbox hg
   refine hK.out _ _ ⟨(Xd BK126.out 0).trans rfl, (Xd BK126.out 1).trans rfl, (Xd BK126.out 2).trans rfl, (Xd BK127.out 0).trans rfl, (Xd BK127.out 1).trans rfl, (Xd BK127.out 2).trans rfl, (Xd BK127.out 3).trans rfl⟩ (fun hHeld => ?_)
   clear hK K
   refine norm_ (a' := ?_) ?_ ?_
   rotate_left
   ·show Act.put _ (some 6) _ = _
    simp only [Act.put, Xa, Xb, Xc, i64_w, i32_w]
    rfl
   exact norm_ (by first | (simp only [Xh, Act.put, Xa, Xb, Xc]; done) | (simp only [Xh, Act.put, Xa, Xb, Xc]; rfl)) (hJ6_13_14_15 (gb133, gb134) _ ⟨hHeld, (bb_5 BK126.out), (bb_5 BK127.out), (bb_5 BK128.out), (bb_5 BK133.out), (bb_5 BK134.out), GW133.out, GE133.out, NB126_133.out, NB133_126.out, NB127_133.out, NB133_127.out, NB128_133.out, NB133_128.out, NB134_133.out, NB133_134.out, GW134.out, GE134.out, NB126_134.out, NB134_126.out, NB127_134.out, NB134_127.out, NB128_134.out, NB134_128.out, (hb_5 HB.out)⟩)
 rintro ⟨gb133, gb134⟩ w17 ⟨hS_, h0_, h1_, h2_, h3_, h4_, h5_, h6_, h7_, h8_, h9_, h10_, h11_, h12_, h13_, h14_, h15_, h16_, h17_, h18_, h19_, h20_, h21_, h22_, h23_⟩
 have n0_ : Xe (w17.heap[gb126]? = some (.cells #[.int .i64 a0_0, .int .i64 a0_1, .int .i64 a0_2] 32 (0, 0))) := ⟨h0_⟩
 have n1_ : Xe (w17.heap[gb127]? = some (.cells #[.int .i64 a1_0, .int .i64 a1_1, .int .i64 a1_2, .int .i64 a1_3] 37 (0, 0))) := ⟨h1_⟩
 have n2_ : Xe (w17.heap[gb128]? = some (.cells #[.int .i64 0, .int .i64 0, .int .i64 0, .int .i64 0] 37 (0, 0))) := ⟨h2_⟩
 have n3_ : Xe (w17.heap[gb133]? = some (.cells #[.int .i64 0, .int .i64 0] 23 (0, 0))) := ⟨h3_⟩
 have n4_ : Xe (w17.heap[gb134]? = some (.cells #[.int .i64 0, .int .i64 0] 23 (0, 0))) := ⟨h4_⟩
 have n5_ : Xe (w.heap.size ≤ gb133) := ⟨h5_⟩
 have n6_ : Xe (w.heap.size ≤ gb133) := ⟨h6_⟩
 have n7_ : Xe (gb126 ≠ gb133) := ⟨h7_⟩
 have n8_ : Xe (gb133 ≠ gb126) := ⟨h8_⟩
 have n9_ : Xe (gb127 ≠ gb133) := ⟨h9_⟩
 have n10_ : Xe (gb133 ≠ gb127) := ⟨h10_⟩
 have n11_ : Xe (gb128 ≠ gb133) := ⟨h11_⟩
 have n12_ : Xe (gb133 ≠ gb128) := ⟨h12_⟩
 have n13_ : Xe (gb134 ≠ gb133) := ⟨h13_⟩
 have n14_ : Xe (gb133 ≠ gb134) := ⟨h14_⟩
 have n15_ : Xe (w.heap.size ≤ gb134) := ⟨h15_⟩
 have n16_ : Xe (w.heap.size ≤ gb134) := ⟨h16_⟩
 have n17_ : Xe (gb126 ≠ gb134) := ⟨h17_⟩
 have n18_ : Xe (gb134 ≠ gb126) := ⟨h18_⟩
 have n19_ : Xe (gb127 ≠ gb134) := ⟨h19_⟩
 have n20_ : Xe (gb134 ≠ gb127) := ⟨h20_⟩
 have n21_ : Xe (gb128 ≠ gb134) := ⟨h21_⟩
 have n22_ : Xe (gb134 ≠ gb128) := ⟨h22_⟩
 have n23_ : Xe (Below w.heap.size w w17) := ⟨h23_⟩
 clear BK126
 clear BK127
 clear BK128
 clear HB
 clear h0_ h1_ h2_ h3_ h4_ h5_ h6_ h7_ h8_ h9_ h10_ h11_ h12_ h13_ h14_ h15_ h16_ h17_ h18_ h19_ h20_ h21_ h22_ h23_
 have BK126 := n0_
 have BK127 := n1_
 have BK128 := n2_
 have BK133 := n3_
 have BK134 := n4_
 have GW133 := n5_
 have GE133 := n6_
 have NB126_133 := n7_
 have NB133_126 := n8_
 have NB127_133 := n9_
 have NB133_127 := n10_
 have NB128_133 := n11_
 have NB133_128 := n12_
 have NB134_133 := n13_
 have NB133_134 := n14_
 have GW134 := n15_
 have GE134 := n16_
 have NB126_134 := n17_
 have NB134_126 := n18_
 have NB127_134 := n19_
 have NB134_127 := n20_
 have NB128_134 := n21_
 have NB134_128 := n22_
 have HB := n23_
 clear n0_ n1_ n2_ n3_ n4_ n5_ n6_ n7_ n8_ n9_ n10_ n11_ n12_ n13_ n14_ n15_ n16_ n17_ n18_ n19_ n20_ n21_ n22_ n23_
 have hHeld : w17.cell? ⟨gb126, 0, none⟩ = some (.int .i64 a0_0) ∧ w17.cell? ⟨gb126, 1, none⟩ = some (.int .i64 a0_1) ∧ w17.cell? ⟨gb126, 2, none⟩ = some (.int .i64 a0_2) ∧ w17.cell? ⟨gb127, 0, none⟩ = some (.int .i64 a1_0) ∧ w17.cell? ⟨gb127, 1, none⟩ = some (.int .i64 a1_1) ∧ w17.cell? ⟨gb127, 2, none⟩ = some (.int .i64 a1_2) ∧ w17.cell? ⟨gb127, 3, none⟩ = some (.int .i64 a1_3) := hS_
 refine norm_ (a' := ?_) ?_ ?_
 rotate_left
 ·simp only [Xh, Act.put, Xa, Xb, Xc]
  rfl
 refine one_ (i := 16) (N := none) #[Zt,Zt,Zt,Zt,Zt,Zt,Zt,Zt,Zt,Zt,Zt,Zt,Zt,Zt,Zt,Zt,Zt,Zf] rfl rfl (one_of HT_.out (by kernel_rfl)) (by decide) (fun K hK => ?_)
 have hs18 : w17.cell? ⟨gb133, 0, none⟩ = some (.int .i64 0) := (Xd BK133.out 0).trans rfl
 have hfs18 := blk_frozen BK133.out 0
 have hns18_0 := NB126_133.out
 have hns18_1 := NB127_133.out
 have hns18_2 := NB128_133.out
 have hns18_4 := NB134_133.out
 have hms18_0 := NB133_126.out
 have hms18_1 := NB133_127.out
 have hms18_2 := NB133_128.out
 have hms18_4 := NB133_134.out
 have hs19 : w17.cell? ⟨gb133, 1, none⟩ = some (.int .i64 0) := (Xd BK133.out 1).trans rfl
 have hfs19 := blk_frozen BK133.out 1
 have hns19_0 := NB126_133.out
 have hns19_1 := NB127_133.out
 have hns19_2 := NB128_133.out
 have hns19_4 := NB134_133.out
 have hms19_0 := NB133_126.out
 have hms19_1 := NB133_127.out
 have hms19_2 := NB133_128.out
 have hms19_4 := NB133_134.out
 refine skip_ (w1 := ?_) (by rfl) rfl ?_ ?_
 rotate_left
 ·go_simp
  rfl
 refine hK.out _ _ ⟨((cell_far (p := ⟨gb133, _, none⟩) NB126_133.out _).trans (((cell_far (p := ⟨gb133, _, none⟩) NB126_133.out _).trans (hHeld.1)))), ((cell_far (p := ⟨gb133, _, none⟩) NB126_133.out _).trans (((cell_far (p := ⟨gb133, _, none⟩) NB126_133.out _).trans (hHeld.2.1)))), ((cell_far (p := ⟨gb133, _, none⟩) NB126_133.out _).trans (((cell_far (p := ⟨gb133, _, none⟩) NB126_133.out _).trans (hHeld.2.2.1)))), ((cell_far (p := ⟨gb133, _, none⟩) NB127_133.out _).trans (((cell_far (p := ⟨gb133, _, none⟩) NB127_133.out _).trans (hHeld.2.2.2.1)))), ((cell_far (p := ⟨gb133, _, none⟩) NB127_133.out _).trans (((cell_far (p := ⟨gb133, _, none⟩) NB127_133.out _).trans (hHeld.2.2.2.2.1)))), ((cell_far (p := ⟨gb133, _, none⟩) NB127_133.out _).trans (((cell_far (p := ⟨gb133, _, none⟩) NB127_133.out _).trans (hHeld.2.2.2.2.2.1)))), ((cell_far (p := ⟨gb133, _, none⟩) NB127_133.out _).trans (((cell_far (p := ⟨gb133, _, none⟩) NB127_133.out _).trans (hHeld.2.2.2.2.2.2))))⟩ (fun hHeld => ?_)
 clear hK K
 refine one_ (i := 17) (N := none) #[Zt,Zt,Zt,Zt,Zt,Zt,Zt,Zt,Zt,Zt,Zt,Zt,Zt,Zt,Zt,Zt,Zt,Zt] rfl rfl (one_of HT_.out (by kernel_rfl)) (by decide) (fun K hK => ?_)
 have hs20 : w17.cell? ⟨gb134, 0, none⟩ = some (.int .i64 0) := (Xd BK134.out 0).trans rfl
 have hfs20 := blk_frozen BK134.out 0
 have hns20_0 := NB126_134.out
 have hns20_1 := NB127_134.out
 have hns20_2 := NB128_134.out
 have hns20_3 := NB133_134.out
 have hms20_0 := NB134_126.out
 have hms20_1 := NB134_127.out
 have hms20_2 := NB134_128.out
 have hms20_3 := NB134_133.out
 have hs21 : w17.cell? ⟨gb134, 1, none⟩ = some (.int .i64 0) := (Xd BK134.out 1).trans rfl
 have hfs21 := blk_frozen BK134.out 1
 have hns21_0 := NB126_134.out
 have hns21_1 := NB127_134.out
 have hns21_2 := NB128_134.out
 have hns21_3 := NB133_134.out
 have hms21_0 := NB134_126.out
 have hms21_1 := NB134_127.out
 have hms21_2 := NB134_128.out
 have hms21_3 := NB134_133.out
 refine skip_ (w1 := ?_) (by rfl) rfl ?_ ?_
 rotate_left
 ·go_simp
  rfl
 refine hK.out _ _ ⟨((cell_far (p := ⟨gb134, _, none⟩) NB126_134.out _).trans (((cell_far (p := ⟨gb134, _, none⟩) NB126_134.out _).trans (hHeld.1)))), ((cell_far (p := ⟨gb134, _, none⟩) NB126_134.out _).trans (((cell_far (p := ⟨gb134, _, none⟩) NB126_134.out _).trans (hHeld.2.1)))), ((cell_far (p := ⟨gb134, _, none⟩) NB126_134.out _).trans (((cell_far (p := ⟨gb134, _, none⟩) NB126_134.out _).trans (hHeld.2.2.1)))), ((cell_far (p := ⟨gb134, _, none⟩) NB127_134.out _).trans (((cell_far (p := ⟨gb134, _, none⟩) NB127_134.out _).trans (hHeld.2.2.2.1)))), ((cell_far (p := ⟨gb134, _, none⟩) NB127_134.out _).trans (((cell_far (p := ⟨gb134, _, none⟩) NB127_134.out _).trans (hHeld.2.2.2.2.1)))), ((cell_far (p := ⟨gb134, _, none⟩) NB127_134.out _).trans (((cell_far (p := ⟨gb134, _, none⟩) NB127_134.out _).trans (hHeld.2.2.2.2.2.1)))), ((cell_far (p := ⟨gb134, _, none⟩) NB127_134.out _).trans (((cell_far (p := ⟨gb134, _, none⟩) NB127_134.out _).trans (hHeld.2.2.2.2.2.2))))⟩ (fun hHeld => ?_)
 clear hK K
 refine done_ (done_of HT_.out (by kernel_rfl)) ?_
 have hnb22 := NB133_126.out
 have hnc22 := NB126_133.out
 have hnb23 := NB133_127.out
 have hnc23 := NB127_133.out
 have hnb24 := NB133_128.out
 have hnc24 := NB128_133.out
 have hnb25 := NB133_134.out
 have hnc25 := NB134_133.out
 have hcz26_0 : w17.cell? ⟨gb133, 0, none⟩ = some (.int .i64 0) := (Xd BK133.out 0).trans rfl
 have hcz26_1 : w17.cell? ⟨gb133, 1, none⟩ = some (.int .i64 0) := (Xd BK133.out 1).trans rfl
 have hfz26_0 := blk_frozen BK133.out 0
 have hfz26_1 := blk_frozen BK133.out 1
 have hnb27 := NB134_126.out
 have hnc27 := NB126_134.out
 have hnb28 := NB134_127.out
 have hnc28 := NB127_134.out
 have hnb29 := NB134_128.out
 have hnc29 := NB128_134.out
 have hcz30_0 : w17.cell? ⟨gb134, 0, none⟩ = some (.int .i64 0) := (Xd BK134.out 0).trans rfl
 have hcz30_1 : w17.cell? ⟨gb134, 1, none⟩ = some (.int .i64 0) := (Xd BK134.out 1).trans rfl
 have hfz30_0 := blk_frozen BK134.out 0
 have hfz30_1 := blk_frozen BK134.out 1
 have hnb31 := NB128_126.out
 have hnc31 := NB126_128.out
 have hnb32 := NB128_127.out
 have hnc32 := NB127_128.out
 have hcz33_0 : w17.cell? ⟨gb128, 0, none⟩ = some (.int .i64 0) := (Xd BK128.out 0).trans rfl
 have hcz33_1 : w17.cell? ⟨gb128, 1, none⟩ = some (.int .i64 0) := (Xd BK128.out 1).trans rfl
 have hcz33_2 : w17.cell? ⟨gb128, 2, none⟩ = some (.int .i64 0) := (Xd BK128.out 2).trans rfl
 have hcz33_3 : w17.cell? ⟨gb128, 3, none⟩ = some (.int .i64 0) := (Xd BK128.out 3).trans rfl
 have hfz33_0 := blk_frozen BK128.out 0
 have hfz33_1 := blk_frozen BK128.out 1
 have hfz33_2 := blk_frozen BK128.out 2
 have hfz33_3 := blk_frozen BK128.out 3
 try go_wp2
 refine bodyPost_ret (results_cell_row rfl _ _ gb128 37 #[.int .i64 ji5, .int .i64 ji6, .int .i64 ji7, .int .i64 ji8] (0, 0) _ rfl (by (with_reducible repeat (first | refine blk_drewN ?_ _ | refine blk_drew ?_ | refine blk_alloc ?_ _)); refine blk_put (cs := #[.int .i64 ji5, .int .i64 ji6, .int .i64 ji7, .int .i64 0]) ?_ 3 _ rfl; (with_reducible repeat (first | refine blk_drewN ?_ _ | refine blk_drew ?_ | refine blk_alloc ?_ _)); refine blk_put (cs := #[.int .i64 ji5, .int .i64 ji6, .int .i64 0, .int .i64 0]) ?_ 2 _ rfl; (with_reducible repeat (first | refine blk_drewN ?_ _ | refine blk_drew ?_ | refine blk_alloc ?_ _)); refine blk_put (cs := #[.int .i64 ji5, .int .i64 0, .int .i64 0, .int .i64 0]) ?_ 1 _ rfl; (with_reducible repeat (first | refine blk_drewN ?_ _ | refine blk_drew ?_ | refine blk_alloc ?_ _)); refine blk_put (cs := #[.int .i64 0, .int .i64 0, .int .i64 0, .int .i64 0]) ?_ 0 _ rfl; (with_reducible repeat (first | refine blk_drewN ?_ _ | refine blk_drew ?_ | refine blk_alloc ?_ _)); refine blk_far ?_ NB128_134.out _; (with_reducible repeat (first | refine blk_drewN ?_ _ | refine blk_drew ?_ | refine blk_alloc ?_ _)); refine blk_far ?_ NB128_134.out _; (with_reducible repeat (first | refine blk_drewN ?_ _ | refine blk_drew ?_ | refine blk_alloc ?_ _)); refine blk_far ?_ NB128_133.out _; (with_reducible repeat (first | refine blk_drewN ?_ _ | refine blk_drew ?_ | refine blk_alloc ?_ _)); refine blk_far ?_ NB128_133.out _; (with_reducible repeat (first | refine blk_drewN ?_ _ | refine blk_drew ?_ | refine blk_alloc ?_ _)); exact BK128.out) Try.underlying37 rfl (by kernel_rfl)) rfl ?_
 exact ⟨by first | rfl | (simp [errW_none, errW_some] <;> rfl) | (simp only [← hji5, ← hji6, ← hji7, ← hji8]; first | rfl | (simp [errW_none, errW_some] <;> rfl)) | (simp [*, errW_none, errW_some] <;> rfl), by repeat (first | (with_reducible first | exact HB.out | apply below_alloc | apply pw_below_drewN | apply below_drew1 | refine below_set ?_ GE126.out | refine below_set ?_ GE127.out | refine below_set ?_ GE128.out | refine below_set ?_ GE133.out | refine below_set ?_ GE134.out) | exact HB.out)⟩

end Go.Proofs.Ythgmjhidigoneaa.PLayerKeeps
