import Derived.Test.YthgmjhidigoneaaPLayerLiesx0
import Derived.Test.YthgmjhidigoneaaPLayerLiesx3
import Derived.Test.YthgmjhidigoneaaPLayerLiesx9
namespace Go.Proofs.Ythgmjhidigoneaa.PLayerLies
open Go.RowKit Go.Proofs.YthgmjhidigoneaaW.PrintWords Go.Proofs.YthgmjhidigoneaaW.PrintLast Go.Proofs.YthgmjhidigoneaaW.PrintMore
open Bool renaming true → Zt, false → Zf
open Go.Proofs.YthgmjhidigoneaaW.PrintWords.Aside0 renaming mk → Za
open List renaming setIfInBounds_toArray → Xa, set_cons_zero → Xb, set_cons_succ → Xc
open Go.Proofs.YthgmjhidigoneaaW.PrintWords renaming blk_cell → Xd
attribute [local go_sem] max2_int min2_int max_two min_two max_three min_three max_four min_four   -- for this text's walks alone
set_option linter.unusedVariables false
set_option linter.unusedSimpArgs false
theorem bb_10 {p q : Prop} (h : q) (f : q → p := by intro h_; (with_reducible repeat (first | refine blk_drewN ?_ _ | refine blk_drew ?_ | refine blk_alloc ?_ _)); exact h_) : p := f h
theorem hb_10 {B : Nat} {w W W1 : World} (h : Below B w W) (f : Below B w W → Below B w W1 := by intro h_; repeat (first | (with_reducible first | exact h_ | apply below_alloc | apply pw_below_drewN | apply below_drew1 | refine below_set ?_ (Aside0.out (by assumption))) | exact h_)) : Below B w W1 := f h

attribute [local go_sem high] eqA96
/-! ### gatherumref03_Turn: function 85 -/
def gatherumref03_Turn.l0 : Nat → Int → Int → Int → Int → Int → Option (Int)
 | 0, _, _, _, _, _ => none
 | k + 1, x3, x276000, x276001, x276002, x276003 => if x3 < 8 then ((gatherumref03_Of.f k x3).bind fun bt276 => (if (bt276.1 == x276000 && (bt276.2.1 == x276001 && (bt276.2.2.1 == x276002 && (bt276.2.2.2 == x276003)))) = Zt then (some x3) else (gatherumref03_Turn.l0 k (wrap64 (x3 + 1)) x276000 x276001 x276002 x276003))) else (some (-1))
def gatherumref03_Turn.f (k : Nat) (a0_0 : Int) (a0_1 : Int) (a0_2 : Int) (a0_3 : Int) : Option (Int) := gatherumref03_Turn.l0 k 0 a0_0 a0_1 a0_2 a0_3
theorem gatherumref03_Turn.mono_l : ∀ k, (∀ y0 y1 y2 y3 y4, LeO (gatherumref03_Turn.l0 k y0 y1 y2 y3 y4) (gatherumref03_Turn.l0 (k + 1) y0 y1 y2 y3 y4))
 | 0 => fun _ _ _ _ _ r h => by simp [gatherumref03_Turn.l0] at h
 | k + 1 => by
  have ih0 := gatherumref03_Turn.mono_l k
  ·intro y0 y1 y2 y3 y4
   unfold gatherumref03_Turn.l0
   repeat' first
   | (with_reducible exact ih0 _ _ _ _ _)
   | (with_reducible exact gatherumref03_Of.mono _ _)
   | (with_reducible exact LeO.refl _)
   | (with_reducible exact LeO.none _)
   | (with_reducible refine LeO.ite ?_ ?_)
   | (with_reducible refine LeO.bind ?_ (fun _ => ?_))
   | exact ih0 _ _ _ _ _
   | exact gatherumref03_Of.mono _ _
   | exact LeO.none _
   | refine LeO.ite ?_ ?_
   | refine LeO.bind ?_ (fun _ => ?_)
theorem gatherumref03_Turn.mono : ∀ a0 a1 a2 a3 k, LeO (gatherumref03_Turn.f k a0 a1 a2 a3) (gatherumref03_Turn.f (k + 1) a0 a1 a2 a3) := by
 intro a0 a1 a2 a3 k
 have ih0 := gatherumref03_Turn.mono_l k
 unfold gatherumref03_Turn.f
 repeat' first
   | (with_reducible exact ih0 _ _ _ _ _)
   | (with_reducible exact gatherumref03_Of.mono _ _)
   | (with_reducible exact LeO.refl _)
   | (with_reducible exact LeO.none _)
   | (with_reducible refine LeO.ite ?_ ?_)
   | (with_reducible refine LeO.bind ?_ (fun _ => ?_))
   | exact ih0 _ _ _ _ _
   | exact gatherumref03_Of.mono _ _
   | exact LeO.none _
   | refine LeO.ite ?_ ?_
   | refine LeO.bind ?_ (fun _ => ?_)
set_option maxHeartbeats 8000000 in
set_option maxRecDepth 100000 in
theorem gatherumref03_Turn.calls (k : Nat) (a0_0 : Int) (a0_1 : Int) (a0_2 : Int) (a0_3 : Int) (r : Int) (w : World) (h : gatherumref03_Turn.f k a0_0 a0_1 a0_2 a0_3 = some r) :
  Calls Try.prog 85 #[.agg #[.int .i64 a0_0, .int .i64 a0_1, .int .i64 a0_2, .int .i64 a0_3]] w fun e w' => e = .returned (.int .i64 r) ∧ Below w.heap.size w w' := by
 have hu96 := Try.underlying96
 have HB := Za (Below.refl w.heap.size w)
 have H : (gatherumref03_Turn.l0 k 0 a0_0 a0_1 a0_2 a0_3) = some r := h
 clear h
 have H' := Za H
 clear H
 go_enter Try.func85, Try.ntmps85
 go_wp2_with (first | ((with_reducible refine gate_dst (N := 1) rfl ?_); refine box_event ?hg (N := 1) ?hd (cs := #[.int .i64 a0_0, .int .i64 a0_1, .int .i64 a0_2, .int .i64 a0_3]) (t := 96) ?hr ?_; (case hd => rfl); (case hg => rfl); (case hr => first | (go_simp; done) | (go_simp; rfl)); intro gb275 hg w2 hbox hb; have n0_ := Za (below_step (hb_10 HB.out) hb); have n1_ := Za (hbox); have n2_ := Za ((by rw [hg]; exact (below_size (hb_10 HB.out)) : w.heap.size ≤ gb275)); have n3_ := Za ((by rw [hg]; exact (below_size (hb_10 HB.out)) : w.heap.size ≤ gb275)); clear HB; have HB := n0_; have BK275 := n1_; have GW275 := n2_; have GE275 := n3_; clear n0_ n1_ n2_ n3_; clear hb hbox hg))
 go_loopg [3] k (fun kq v3 w' => ∃ (x3_1 : Int), v3 = .int .i64 x3_1 ∧ Aside0 (gatherumref03_Turn.l0 kq x3_1 a0_0 a0_1 a0_2 a0_3 = some r) ∧ Aside0 (kq ≤ k) ∧ Aside0 (w'.heap[gb275]? = some (.cells #[.int .i64 a0_0, .int .i64 a0_1, .int .i64 a0_2, .int .i64 a0_3] 96 (0, 0))) ∧ Aside0 (Below w.heap.size w w'))
 case atStart => exact ⟨(0), (by first | rfl | (simp; done) | (simp [*]; done)), H', ⟨Nat.le_refl _⟩, ⟨by (with_reducible repeat (first | refine blk_drewN ?_ _ | refine blk_drew ?_ | refine blk_alloc ?_ _)); exact BK275.out⟩, ⟨by repeat (first | (with_reducible first | exact HB.out | apply below_alloc | apply pw_below_drewN | apply below_drew1 | refine below_set ?_ GE275.out) | exact HB.out)⟩⟩
 case round =>
  clear H'
  try clear p2
  obtain ⟨x3_1, rfl, HA, HK1, BK275, HB⟩ := hrel
  cases gk with
  | zero => exact absurd HA.out (by simp [gatherumref03_Turn.l0])
  | succ k1 =>
   have H := HA.out
   clear HA
   simp only [gatherumref03_Turn.l0] at H
   by_cases c3 : x3_1 < 8
   ·rw [if_pos c3] at H
    have c3b0 : decide (x3_1 < 8) = Zt := decide_eq_true c3
    clear c3
    replace H := Option.bind_eq_some_iff.mp H
    obtain ⟨⟨t276, t277, t278, t279⟩, A40, H⟩ := H
    replace H : (if (t276 == a0_0 && (t277 == a0_1 && (t278 == a0_2 && (t279 == a0_3)))) = Zt then (some x3_1) else (gatherumref03_Turn.l0 k1 (wrap64 (x3_1 + 1)) a0_0 a0_1 a0_2 a0_3)) = some r := H
    have A4 := Za A40
    clear A40
    by_cases c5 : (t276 == a0_0 && (t277 == a0_1 && (t278 == a0_2 && (t279 == a0_3)))) = Zt
    ·rw [if_pos c5] at H
     have c5b0 : (t276 == a0_0 && (t277 == a0_1 && (t278 == a0_2 && (t279 == a0_3)))) = Zt := c5
     (try (have c5b1 : decide (t276 = a0_0 && (t277 == a0_1 && (t278 == a0_2 && (t279 == a0_3)))) = Zt := by simpa using c5))
     (try (have c5b2 : (t276 == a0_0 && (t277 == a0_1 && (t278 == a0_2 && (t279 == a0_3)))) = Zt := by simpa using c5))
     clear c5
     obtain rfl := Option.some.inj H
     try go_wp2
     have n0_ := Za (blk_drew BK275.out)
     have n1_ := Za (below_drew1 HB.out)
     clear BK275
     clear HB
     have BK275 := n0_
     have HB := n1_
     clear n0_ n1_
     refine start_ (n := 4) (S := fun w' => w'.cell? ⟨gb275, 0, none⟩ = some (.int .i64 a0_0) ∧ w'.cell? ⟨gb275, 1, none⟩ = some (.int .i64 a0_1) ∧ w'.cell? ⟨gb275, 2, none⟩ = some (.int .i64 a0_2) ∧ w'.cell? ⟨gb275, 3, none⟩ = some (.int .i64 a0_3)) (ds := []) #[Zf,Zf,Zf,Zf] (by kernel_rfl) rfl rfl ⟨(Xd BK275.out 0).trans rfl, (Xd BK275.out 1).trans rfl, (Xd BK275.out 2).trans rfl, (Xd BK275.out 3).trans rfl⟩ (fun hHeld => ?_)
     generalize wr.drew = w6 at BK275 HB hHeld ⊢
     refine pure_ (i := 0) (N := some 8) (v := ?_) (a' := ?_) #[Zt,Zf,Zf,Zf] rfl rfl (by kernel_rfl) (fun _ _ _ h => h) (Or.inl ⟨by rfl, ?_⟩) ?_ ?_
     rotate_left
     ·intro w'
      go_simp
      with_reducible rfl
     rotate_left
     ·simp only [Act.put, Xa, Xb, Xc, i64_w, i32_w]
      rfl
     refine take_ (i := 2) (N := some 10) (v := ?_) (a' := ?_) #[Zt,Zf,Zt,Zf] rfl rfl (by kernel_rfl) (fun _ _ _ h => h) (Or.inl ⟨by rfl, ?_⟩) hHeld ?_ ?_
     rotate_left
     ·rintro w' ⟨s0, s1, s2, s3⟩
      go_simp
      with_reducible rfl
     rotate_left
     ·simp only [Act.put, Xa, Xb, Xc, i64_w, i32_w]
      rfl
     refine one_ (i := 1) (N := some 9) #[Zt,Zt,Zt,Zf] rfl rfl (by kernel_rfl) (by decide) (fun K hK => ?_)
     refine goes_ Try.func71 (by kernel_rfl) rfl #[.int .i64 x3_1] (by rfl) rfl rfl (by (try simp only [List.map_toArray, List.map_cons, List.map_nil]); first | done | rfl | (simp only [List.length_drop, List.length_take]; rfl)) ?_
     with_reducible refine (gatherumref03_Of.calls k1 x3_1 t276 t277 t278 t279 _ A4.out).mono ?_
     rintro e w7 ⟨rfl, hb⟩
     refine ⟨_, rfl, ?_⟩
     have n0_ := Za (blk_below (g := gb275) (o := .cells #[.int .i64 a0_0, .int .i64 a0_1, .int .i64 a0_2, .int .i64 a0_3] 96 (0, 0)) (bb_10 BK275.out) hb)
     have n1_ := Za (below_step (hb_10 HB.out) hb)
     clear BK275
     clear HB
     have BK275 := n0_
     have HB := n1_
     clear n0_ n1_
     (try clear hb)
     (try clear hb2)
     (try clear hk)
     (try clear hi)
     refine hK.out _ _ ⟨(Xd BK275.out 0).trans rfl, (Xd BK275.out 1).trans rfl, (Xd BK275.out 2).trans rfl, (Xd BK275.out 3).trans rfl⟩ (fun hHeld => ?_)
     clear hK K
     refine norm_ (a' := ?_) ?_ ?_
     rotate_left
     ·show Act.put _ (some 9) _ = _
      simp only [Act.put, Xa, Xb, Xc, i64_w, i32_w]
      rfl
     refine pure_ (i := 3) (N := some 11) (v := ?_) (a' := ?_) #[Zt,Zt,Zt,Zt] rfl rfl (by kernel_rfl) (fun _ _ _ h => h) (Or.inl ⟨by rfl, ?_⟩) ?_ ?_
     rotate_left
     ·intro w'
      go_simp
      with_reducible rfl
     rotate_left
     ·simp only [Act.put, Xa, Xb, Xc, i64_w, i32_w]
      rfl
     refine done_ (by kernel_rfl) ?_
     try go_wp2
     go_ret
     exact ⟨by first | rfl | (simp [errW_none, errW_some] <;> rfl) | (simp [*, errW_none, errW_some] <;> rfl), by repeat (first | (with_reducible first | exact HB.out | apply below_alloc | apply pw_below_drewN | apply below_drew1 | refine below_set ?_ GE275.out) | exact HB.out)⟩
    ·rw [if_neg c5] at H
     have c5b0 : (t276 == a0_0 && (t277 == a0_1 && (t278 == a0_2 && (t279 == a0_3)))) = Zf := by simpa using c5
     (try (have c5b1 : decide (t276 = a0_0 && (t277 == a0_1 && (t278 == a0_2 && (t279 == a0_3)))) = Zf := by simpa using c5))
     (try (have c5b2 : (t276 == a0_0 && (t277 == a0_1 && (t278 == a0_2 && (t279 == a0_3)))) = Zf := by simpa using c5))
     (try (have c5b3 : ¬ (t276 = a0_0 && (t277 == a0_1 && (t278 == a0_2 && (t279 == a0_3)))) := by simpa using c5))
     clear c5
     have H' := Za H
     clear H
     try go_wp2
     have n0_ := Za (blk_drew BK275.out)
     have n1_ := Za (below_drew1 HB.out)
     clear BK275
     clear HB
     have BK275 := n0_
     have HB := n1_
     clear n0_ n1_
     refine start_ (n := 4) (S := fun w' => w'.cell? ⟨gb275, 0, none⟩ = some (.int .i64 a0_0) ∧ w'.cell? ⟨gb275, 1, none⟩ = some (.int .i64 a0_1) ∧ w'.cell? ⟨gb275, 2, none⟩ = some (.int .i64 a0_2) ∧ w'.cell? ⟨gb275, 3, none⟩ = some (.int .i64 a0_3)) (ds := []) #[Zf,Zf,Zf,Zf] (by kernel_rfl) rfl rfl ⟨(Xd BK275.out 0).trans rfl, (Xd BK275.out 1).trans rfl, (Xd BK275.out 2).trans rfl, (Xd BK275.out 3).trans rfl⟩ (fun hHeld => ?_)
     generalize wr.drew = w8 at BK275 HB hHeld ⊢
     refine pure_ (i := 0) (N := some 8) (v := ?_) (a' := ?_) #[Zt,Zf,Zf,Zf] rfl rfl (by kernel_rfl) (fun _ _ _ h => h) (Or.inl ⟨by rfl, ?_⟩) ?_ ?_
     rotate_left
     ·intro w'
      go_simp
      with_reducible rfl
     rotate_left
     ·simp only [Act.put, Xa, Xb, Xc, i64_w, i32_w]
      rfl
     refine take_ (i := 2) (N := some 10) (v := ?_) (a' := ?_) #[Zt,Zf,Zt,Zf] rfl rfl (by kernel_rfl) (fun _ _ _ h => h) (Or.inl ⟨by rfl, ?_⟩) hHeld ?_ ?_
     rotate_left
     ·rintro w' ⟨s0, s1, s2, s3⟩
      go_simp
      with_reducible rfl
     rotate_left
     ·simp only [Act.put, Xa, Xb, Xc, i64_w, i32_w]
      rfl
     refine one_ (i := 1) (N := some 9) #[Zt,Zt,Zt,Zf] rfl rfl (by kernel_rfl) (by decide) (fun K hK => ?_)
     refine goes_ Try.func71 (by kernel_rfl) rfl #[.int .i64 x3_1] (by rfl) rfl rfl (by (try simp only [List.map_toArray, List.map_cons, List.map_nil]); first | done | rfl | (simp only [List.length_drop, List.length_take]; rfl)) ?_
     with_reducible refine (gatherumref03_Of.calls k1 x3_1 t276 t277 t278 t279 _ A4.out).mono ?_
     rintro e w9 ⟨rfl, hb⟩
     refine ⟨_, rfl, ?_⟩
     have n0_ := Za (blk_below (g := gb275) (o := .cells #[.int .i64 a0_0, .int .i64 a0_1, .int .i64 a0_2, .int .i64 a0_3] 96 (0, 0)) (bb_10 BK275.out) hb)
     have n1_ := Za (below_step (hb_10 HB.out) hb)
     clear BK275
     clear HB
     have BK275 := n0_
     have HB := n1_
     clear n0_ n1_
     (try clear hb)
     (try clear hb2)
     (try clear hk)
     (try clear hi)
     refine hK.out _ _ ⟨(Xd BK275.out 0).trans rfl, (Xd BK275.out 1).trans rfl, (Xd BK275.out 2).trans rfl, (Xd BK275.out 3).trans rfl⟩ (fun hHeld => ?_)
     clear hK K
     refine norm_ (a' := ?_) ?_ ?_
     rotate_left
     ·show Act.put _ (some 9) _ = _
      simp only [Act.put, Xa, Xb, Xc, i64_w, i32_w]
      rfl
     refine pure_ (i := 3) (N := some 11) (v := ?_) (a' := ?_) #[Zt,Zt,Zt,Zt] rfl rfl (by kernel_rfl) (fun _ _ _ h => h) (Or.inl ⟨by rfl, ?_⟩) ?_ ?_
     rotate_left
     ·intro w'
      go_simp
      with_reducible rfl
     rotate_left
     ·simp only [Act.put, Xa, Xb, Xc, i64_w, i32_w]
      rfl
     refine done_ (by kernel_rfl) ?_
     try go_wp2
     go_roundg k1
     case measure => have := HK1.out; omega
     case rel => exact ⟨(wrap64 (x3_1 + 1)), (by first | rfl | (simp; done) | (simp [*]; done)), H', ⟨by have := HK1.out; omega⟩, ⟨by (with_reducible repeat (first | refine blk_drewN ?_ _ | refine blk_drew ?_ | refine blk_alloc ?_ _)); exact BK275.out⟩, ⟨by repeat (first | (with_reducible first | exact HB.out | apply below_alloc | apply pw_below_drewN | apply below_drew1 | refine below_set ?_ GE275.out) | exact HB.out)⟩⟩
   ·rw [if_neg c3] at H
    have c3b0 : decide (x3_1 < 8) = Zf := decide_eq_false c3
    clear c3
    obtain rfl := Option.some.inj H
    go_wp2
    go_ret
    exact ⟨by first | rfl | (simp [errW_none, errW_some] <;> rfl) | (simp [*, errW_none, errW_some] <;> rfl), by repeat (first | (with_reducible first | exact HB.out | apply below_alloc | apply pw_below_drewN | apply below_drew1 | refine below_set ?_ GE275.out) | exact HB.out)⟩

/-! ### gatherumref04_Then: function 42 -/
def gatherumref04_Then.f (k : Nat) (a0_0 : Int) (a0_1 : Int) (a0_2 : Int) (a1_0 : Int) (a1_1 : Int) (a1_2 : Int) : Option (Int × Int × Int) := (gatherumref04_Do.f k a1_0 a1_1 a1_2 a0_1 a0_2).bind fun bt283 => ((gatherumref03_Of.f k a0_0).bind fun bt286 => ((gatherumref03_Of.f k a1_0).bind fun bt290 => ((gatherumref03_Then.f bt286.1 bt286.2.1 bt286.2.2.1 bt286.2.2.2 bt290.1 bt290.2.1 bt290.2.2.1 bt290.2.2.2).bind fun bt294 => ((gatherumref03_Turn.f k bt294.1 bt294.2.1 bt294.2.2.1 bt294.2.2.2).bind fun t298 => (some (t298, bt283.1, bt283.2))))))
theorem gatherumref04_Then.mono : ∀ a0 a1 a2 a3 a4 a5 k, LeO (gatherumref04_Then.f k a0 a1 a2 a3 a4 a5) (gatherumref04_Then.f (k + 1) a0 a1 a2 a3 a4 a5) := by
 intro a0 a1 a2 a3 a4 a5 k
 unfold gatherumref04_Then.f
 repeat' first
   | (with_reducible exact gatherumref03_Of.mono _ _)
   | (with_reducible exact gatherumref03_Turn.mono _ _ _ _ _)
   | (with_reducible exact gatherumref04_Do.mono _ _ _ _ _ _)
   | (with_reducible exact LeO.refl _)
   | (with_reducible exact LeO.none _)
   | (with_reducible refine LeO.ite ?_ ?_)
   | (with_reducible refine LeO.bind ?_ (fun _ => ?_))
   | exact gatherumref03_Of.mono _ _
   | exact gatherumref03_Turn.mono _ _ _ _ _
   | exact gatherumref04_Do.mono _ _ _ _ _ _
   | exact LeO.none _
   | refine LeO.ite ?_ ?_
   | refine LeO.bind ?_ (fun _ => ?_)
def gatherumref04_Then.T2 : Bool × List (List Nat × List Nat) := (Zt, [([], []), ([0], [0]), ([1], [1]), ([], []), ([3], [3]), ([4, 2], [4]), ([2, 5, 5], [2, 5]), ([6, 6], [6]), ([], []), ([8], [8]), ([], []), ([10], [10]), ([7, 9, 11], [7, 9, 11]), ([12, 7, 0, 1, 2, 3, 4, 5, 6, 7, 8, 9, 10, 11, 12], [12])])
def gatherumref04_Then.B2 : List Nat := [0, 1, 3, 0, 8, 31, 63, 127, 0, 256, 0, 1024, 4095, 8191]
theorem gatherumref04_Then.tab2 : rtab .any (opsOf Try.f42 2) = gatherumref04_Then.T2 := by kernel_rfl
theorem gatherumref04_Then.bits2 : waitsOk gatherumref04_Then.T2.2 gatherumref04_Then.B2 = Zt := by kernel_rfl
set_option maxHeartbeats 8000000 in
set_option maxRecDepth 100000 in
theorem gatherumref04_Then.calls (k : Nat) (a0_0 : Int) (a0_1 : Int) (a0_2 : Int) (a1_0 : Int) (a1_1 : Int) (a1_2 : Int) (r1 : Int) (r2 : Int) (r3 : Int) (w : World) (h : gatherumref04_Then.f k a0_0 a0_1 a0_2 a1_0 a1_1 a1_2 = some (r1, r2, r3)) :
  Calls Try.prog 42 #[.agg #[.int .i64 a0_0, .int .i64 a0_1, .int .i64 a0_2], .agg #[.int .i64 a1_0, .int .i64 a1_1, .int .i64 a1_2]] w fun e w' => e = .returned (.agg #[.int .i64 r1, .int .i64 r2, .int .i64 r3]) ∧ Below w.heap.size w w' := by
 have hu32 := Try.underlying32
 have hu23 := Try.underlying23
 have HB := Za (Below.refl w.heap.size w)
 have H : ((gatherumref04_Do.f k a1_0 a1_1 a1_2 a0_1 a0_2).bind fun bt283 => ((gatherumref03_Of.f k a0_0).bind fun bt286 => ((gatherumref03_Of.f k a1_0).bind fun bt290 => ((gatherumref03_Then.f bt286.1 bt286.2.1 bt286.2.2.1 bt286.2.2.2 bt290.1 bt290.2.1 bt290.2.2.1 bt290.2.2.2).bind fun bt294 => ((gatherumref03_Turn.f k bt294.1 bt294.2.1 bt294.2.2.1 bt294.2.2.2).bind fun t298 => (some (t298, bt283.1, bt283.2))))))) = some (r1, r2, r3) := h
 clear h
 replace H := Option.bind_eq_some_iff.mp H
 obtain ⟨⟨t283, t284⟩, A30, H⟩ := H
 replace H : ((gatherumref03_Of.f k a0_0).bind fun bt286 => ((gatherumref03_Of.f k a1_0).bind fun bt290 => ((gatherumref03_Then.f bt286.1 bt286.2.1 bt286.2.2.1 bt286.2.2.2 bt290.1 bt290.2.1 bt290.2.2.1 bt290.2.2.2).bind fun bt294 => ((gatherumref03_Turn.f k bt294.1 bt294.2.1 bt294.2.2.1 bt294.2.2.2).bind fun t298 => (some (t298, t283, t284)))))) = some (r1, r2, r3) := H
 have A3 := Za A30
 clear A30
 replace H := Option.bind_eq_some_iff.mp H
 obtain ⟨⟨t286, t287, t288, t289⟩, A40, H⟩ := H
 replace H : ((gatherumref03_Of.f k a1_0).bind fun bt290 => ((gatherumref03_Then.f t286 t287 t288 t289 bt290.1 bt290.2.1 bt290.2.2.1 bt290.2.2.2).bind fun bt294 => ((gatherumref03_Turn.f k bt294.1 bt294.2.1 bt294.2.2.1 bt294.2.2.2).bind fun t298 => (some (t298, t283, t284))))) = some (r1, r2, r3) := H
 have A4 := Za A40
 clear A40
 replace H := Option.bind_eq_some_iff.mp H
 obtain ⟨⟨t290, t291, t292, t293⟩, A50, H⟩ := H
 replace H : ((gatherumref03_Then.f t286 t287 t288 t289 t290 t291 t292 t293).bind fun bt294 => ((gatherumref03_Turn.f k bt294.1 bt294.2.1 bt294.2.2.1 bt294.2.2.2).bind fun t298 => (some (t298, t283, t284)))) = some (r1, r2, r3) := H
 have A5 := Za A50
 clear A50
 replace H := Option.bind_eq_some_iff.mp H
 obtain ⟨⟨t294, t295, t296, t297⟩, A60, H⟩ := H
 replace H : ((gatherumref03_Turn.f k t294 t295 t296 t297).bind fun t298 => (some (t298, t283, t284))) = some (r1, r2, r3) := H
 have A6 := Za A60
 clear A60
 replace H := Option.bind_eq_some_iff.mp H
 obtain ⟨t298, A70, H⟩ := H
 replace H : (some (t298, t283, t284)) = some (r1, r2, r3) := H
 have A7 := Za A70
 clear A70
 simp only [Option.some.injEq, Prod.mk.injEq] at H
 obtain ⟨rfl, rfl, rfl⟩ := H
 go_enter Try.func42, Try.ntmps42
 try go_wp2_with (first | ((with_reducible refine gate_dst (N := 2) rfl ?_); refine box_event ?hg (N := 2) ?hd (cs := #[.int .i64 a0_0, .int .i64 a0_1, .int .i64 a0_2]) (t := 32) ?hr ?_; (case hd => rfl); (case hg => rfl); (case hr => first | (go_simp; done) | (go_simp; rfl)); intro gb280 hg w8 hbox hb; have n0_ := Za (below_step (hb_10 HB.out) hb); have n1_ := Za (hbox); have n2_ := Za ((by rw [hg]; exact (below_size (hb_10 HB.out)) : w.heap.size ≤ gb280)); have n3_ := Za ((by rw [hg]; exact (below_size (hb_10 HB.out)) : w.heap.size ≤ gb280)); clear HB; have HB := n0_; have BK280 := n1_; have GW280 := n2_; have GE280 := n3_; clear n0_ n1_ n2_ n3_; clear hb hbox hg) | ((with_reducible refine gate_dst (N := 3) rfl ?_); refine box_event ?hg (N := 3) ?hd (cs := #[.int .i64 a1_0, .int .i64 a1_1, .int .i64 a1_2]) (t := 32) ?hr ?_; (case hd => rfl); (case hg => rfl); (case hr => first | (go_simp; done) | (go_simp; rfl)); intro gb281 hg w9 hbox hb; have n0_ := Za (blk_below (g := gb280) (o := .cells #[.int .i64 a0_0, .int .i64 a0_1, .int .i64 a0_2] 32 (0, 0)) (bb_10 BK280.out) hb); have n1_ := Za (below_step (hb_10 HB.out) hb); have n2_ := Za (hbox); have n3_ := Za ((by rw [hg]; exact (below_size (hb_10 HB.out)) : w.heap.size ≤ gb281)); have n4_ := Za ((by rw [hg]; exact (below_size (hb_10 HB.out)) : w.heap.size ≤ gb281)); have n5_ := Za ((by rw [hg]; exact Nat.ne_of_lt (blk_lt (g := gb280) (o := .cells #[.int .i64 a0_0, .int .i64 a0_1, .int .i64 a0_2] 32 (0, 0)) (bb_10 BK280.out)) : gb280 ≠ gb281)); have n6_ := Za ((by rw [hg]; exact Nat.ne_of_gt (blk_lt (g := gb280) (o := .cells #[.int .i64 a0_0, .int .i64 a0_1, .int .i64 a0_2] 32 (0, 0)) (bb_10 BK280.out)) : gb281 ≠ gb280)); clear BK280; clear HB; have BK280 := n0_; have HB := n1_; have BK281 := n2_; have GW281 := n3_; have GE281 := n4_; have NB280_281 := n5_; have NB281_280 := n6_; clear n0_ n1_ n2_ n3_ n4_ n5_ n6_; clear hb hbox hg) | ((with_reducible refine gate_dst (N := 4) rfl ?_); refine box_event ?hg (N := 4) ?hd (cs := #[.int .i64 0, .int .i64 0, .int .i64 0]) (t := 32) ?hr ?_; (case hd => rfl); (case hg => rfl); (case hr => first | (go_simp; done) | (go_simp; rfl)); intro gb282 hg w10 hbox hb; have n0_ := Za (blk_below (g := gb280) (o := .cells #[.int .i64 a0_0, .int .i64 a0_1, .int .i64 a0_2] 32 (0, 0)) (bb_10 BK280.out) hb); have n1_ := Za (blk_below (g := gb281) (o := .cells #[.int .i64 a1_0, .int .i64 a1_1, .int .i64 a1_2] 32 (0, 0)) (bb_10 BK281.out) hb); have n2_ := Za (below_step (hb_10 HB.out) hb); have n3_ := Za (hbox); have n4_ := Za ((by rw [hg]; exact (below_size (hb_10 HB.out)) : w.heap.size ≤ gb282)); have n5_ := Za ((by rw [hg]; exact (below_size (hb_10 HB.out)) : w.heap.size ≤ gb282)); have n6_ := Za ((by rw [hg]; exact Nat.ne_of_lt (blk_lt (g := gb280) (o := .cells #[.int .i64 a0_0, .int .i64 a0_1, .int .i64 a0_2] 32 (0, 0)) (bb_10 BK280.out)) : gb280 ≠ gb282)); have n7_ := Za ((by rw [hg]; exact Nat.ne_of_gt (blk_lt (g := gb280) (o := .cells #[.int .i64 a0_0, .int .i64 a0_1, .int .i64 a0_2] 32 (0, 0)) (bb_10 BK280.out)) : gb282 ≠ gb280)); have n8_ := Za ((by rw [hg]; exact Nat.ne_of_lt (blk_lt (g := gb281) (o := .cells #[.int .i64 a1_0, .int .i64 a1_1, .int .i64 a1_2] 32 (0, 0)) (bb_10 BK281.out)) : gb281 ≠ gb282)); have n9_ := Za ((by rw [hg]; exact Nat.ne_of_gt (blk_lt (g := gb281) (o := .cells #[.int .i64 a1_0, .int .i64 a1_1, .int .i64 a1_2] 32 (0, 0)) (bb_10 BK281.out)) : gb282 ≠ gb281)); clear BK280; clear BK281; clear HB; have BK280 := n0_; have BK281 := n1_; have HB := n2_; have BK282 := n3_; have GW282 := n4_; have GE282 := n5_; have NB280_282 := n6_; have NB282_280 := n7_; have NB281_282 := n8_; have NB282_281 := n9_; clear n0_ n1_ n2_ n3_ n4_ n5_ n6_ n7_ n8_ n9_; clear hb hbox hg; have hnb11 := NB281_280.out; have hnc11 := NB280_281.out; have hnb12 := NB281_282.out; have hnc12 := NB282_281.out; have hcz13_0 : w10.cell? ⟨gb281, 0, none⟩ = some (.int .i64 a1_0) := (Xd BK281.out 0).trans rfl; have hcz13_1 : w10.cell? ⟨gb281, 1, none⟩ = some (.int .i64 a1_1) := (Xd BK281.out 1).trans rfl; have hcz13_2 : w10.cell? ⟨gb281, 2, none⟩ = some (.int .i64 a1_2) := (Xd BK281.out 2).trans rfl; have hfz13_0 := blk_frozen BK281.out 0; have hfz13_1 := blk_frozen BK281.out 1; have hfz13_2 := blk_frozen BK281.out 2; have hnb14 := NB280_282.out; have hnc14 := NB282_280.out; have hcz15_0 : w10.cell? ⟨gb280, 0, none⟩ = some (.int .i64 a0_0) := (Xd BK280.out 0).trans rfl; have hcz15_1 : w10.cell? ⟨gb280, 1, none⟩ = some (.int .i64 a0_1) := (Xd BK280.out 1).trans rfl; have hcz15_2 : w10.cell? ⟨gb280, 2, none⟩ = some (.int .i64 a0_2) := (Xd BK280.out 2).trans rfl; have hfz15_0 := blk_frozen BK280.out 0; have hfz15_1 := blk_frozen BK280.out 1; have hfz15_2 := blk_frozen BK280.out 2) | ((with_reducible refine gate_callee (f := 17) rfl ?_); refine goesL_ (some 12) rfl rfl Try.func17 (by kernel_rfl) rfl #[.agg #[.int .i64 a1_0, .int .i64 a1_1, .int .i64 a1_2], .agg #[.int .i64 a0_1, .int .i64 a0_2]] rfl (by (try simp only [List.map_toArray, List.map_cons, List.map_nil]); first | done | rfl | (simp only [List.length_drop, List.length_take]; rfl)) ?_; (with_reducible refine (gatherumref04_Do.calls k a1_0 a1_1 a1_2 a0_1 a0_2 t283 t284 _ A3.out).mono ?_); rintro e w16 ⟨rfl, hb⟩; refine ⟨_, rfl, ?_⟩; have n0_ := Za (blk_below (g := gb280) (o := .cells #[.int .i64 a0_0, .int .i64 a0_1, .int .i64 a0_2] 32 (0, 0)) (bb_10 BK280.out) hb); have n1_ := Za (blk_below (g := gb281) (o := .cells #[.int .i64 a1_0, .int .i64 a1_1, .int .i64 a1_2] 32 (0, 0)) (bb_10 BK281.out) hb); have n2_ := Za (blk_below (g := gb282) (o := .cells #[.int .i64 0, .int .i64 0, .int .i64 0] 32 (0, 0)) (bb_10 BK282.out) hb); have n3_ := Za (below_step (hb_10 HB.out) hb); clear BK280; clear BK281; clear BK282; clear HB; have BK280 := n0_; have BK281 := n1_; have BK282 := n2_; have HB := n3_; clear n0_ n1_ n2_ n3_; (try clear hb); (try clear hb2); (try clear hk); (try clear hi)) | ((with_reducible refine gate_dst (N := 5) rfl ?_); refine box_event ?hg (N := 5) ?hd (cs := #[.int .i64 0, .int .i64 0]) (t := 23) ?hr ?_; (case hd => rfl); (case hg => rfl); (case hr => first | (go_simp; done) | (go_simp; rfl)); intro gb285 hg w17 hbox hb; have n0_ := Za (blk_below (g := gb280) (o := .cells #[.int .i64 a0_0, .int .i64 a0_1, .int .i64 a0_2] 32 (0, 0)) (bb_10 BK280.out) hb); have n1_ := Za (blk_below (g := gb281) (o := .cells #[.int .i64 a1_0, .int .i64 a1_1, .int .i64 a1_2] 32 (0, 0)) (bb_10 BK281.out) hb); have n2_ := Za (blk_below (g := gb282) (o := .cells #[.int .i64 0, .int .i64 0, .int .i64 0] 32 (0, 0)) (bb_10 BK282.out) hb); have n3_ := Za (below_step (hb_10 HB.out) hb); have n4_ := Za (hbox); have n5_ := Za ((by rw [hg]; exact (below_size (hb_10 HB.out)) : w.heap.size ≤ gb285)); have n6_ := Za ((by rw [hg]; exact (below_size (hb_10 HB.out)) : w.heap.size ≤ gb285)); have n7_ := Za ((by rw [hg]; exact Nat.ne_of_lt (blk_lt (g := gb280) (o := .cells #[.int .i64 a0_0, .int .i64 a0_1, .int .i64 a0_2] 32 (0, 0)) (bb_10 BK280.out)) : gb280 ≠ gb285)); have n8_ := Za ((by rw [hg]; exact Nat.ne_of_gt (blk_lt (g := gb280) (o := .cells #[.int .i64 a0_0, .int .i64 a0_1, .int .i64 a0_2] 32 (0, 0)) (bb_10 BK280.out)) : gb285 ≠ gb280)); have n9_ := Za ((by rw [hg]; exact Nat.ne_of_lt (blk_lt (g := gb281) (o := .cells #[.int .i64 a1_0, .int .i64 a1_1, .int .i64 a1_2] 32 (0, 0)) (bb_10 BK281.out)) : gb281 ≠ gb285)); have n10_ := Za ((by rw [hg]; exact Nat.ne_of_gt (blk_lt (g := gb281) (o := .cells #[.int .i64 a1_0, .int .i64 a1_1, .int .i64 a1_2] 32 (0, 0)) (bb_10 BK281.out)) : gb285 ≠ gb281)); have n11_ := Za ((by rw [hg]; exact Nat.ne_of_lt (blk_lt (g := gb282) (o := .cells #[.int .i64 0, .int .i64 0, .int .i64 0] 32 (0, 0)) (bb_10 BK282.out)) : gb282 ≠ gb285)); have n12_ := Za ((by rw [hg]; exact Nat.ne_of_gt (blk_lt (g := gb282) (o := .cells #[.int .i64 0, .int .i64 0, .int .i64 0] 32 (0, 0)) (bb_10 BK282.out)) : gb285 ≠ gb282)); clear BK280; clear BK281; clear BK282; clear HB; have BK280 := n0_; have BK281 := n1_; have BK282 := n2_; have HB := n3_; have BK285 := n4_; have GW285 := n5_; have GE285 := n6_; have NB280_285 := n7_; have NB285_280 := n8_; have NB281_285 := n9_; have NB285_281 := n10_; have NB282_285 := n11_; have NB285_282 := n12_; clear n0_ n1_ n2_ n3_ n4_ n5_ n6_ n7_ n8_ n9_ n10_ n11_ n12_; clear hb hbox hg; have hnb18 := NB285_280.out; have hnc18 := NB280_285.out; have hnb19 := NB285_281.out; have hnc19 := NB281_285.out; have hnb20 := NB285_282.out; have hnc20 := NB282_285.out; have hcz21_0 : w17.cell? ⟨gb285, 0, none⟩ = some (.int .i64 0) := (Xd BK285.out 0).trans rfl; have hcz21_1 : w17.cell? ⟨gb285, 1, none⟩ = some (.int .i64 0) := (Xd BK285.out 1).trans rfl; have hfz21_0 := blk_frozen BK285.out 0; have hfz21_1 := blk_frozen BK285.out 1))
 have n0_ : Aside0 (((w17.setCell ⟨gb285, 0, none⟩ (.int .i64 t283)).setCell ⟨gb285, 1, none⟩ (.int .i64 t284)).heap[gb280]? = some (.cells #[.int .i64 a0_0, .int .i64 a0_1, .int .i64 a0_2] 32 (0, 0))) := ⟨by (with_reducible repeat (first | refine blk_drewN ?_ _ | refine blk_drew ?_ | refine blk_alloc ?_ _)); refine blk_far ?_ NB280_285.out _; (with_reducible repeat (first | refine blk_drewN ?_ _ | refine blk_drew ?_ | refine blk_alloc ?_ _)); refine blk_far ?_ NB280_285.out _; (with_reducible repeat (first | refine blk_drewN ?_ _ | refine blk_drew ?_ | refine blk_alloc ?_ _)); exact BK280.out⟩
 have n1_ : Aside0 (((w17.setCell ⟨gb285, 0, none⟩ (.int .i64 t283)).setCell ⟨gb285, 1, none⟩ (.int .i64 t284)).heap[gb281]? = some (.cells #[.int .i64 a1_0, .int .i64 a1_1, .int .i64 a1_2] 32 (0, 0))) := ⟨by (with_reducible repeat (first | refine blk_drewN ?_ _ | refine blk_drew ?_ | refine blk_alloc ?_ _)); refine blk_far ?_ NB281_285.out _; (with_reducible repeat (first | refine blk_drewN ?_ _ | refine blk_drew ?_ | refine blk_alloc ?_ _)); refine blk_far ?_ NB281_285.out _; (with_reducible repeat (first | refine blk_drewN ?_ _ | refine blk_drew ?_ | refine blk_alloc ?_ _)); exact BK281.out⟩
 have n2_ : Aside0 (((w17.setCell ⟨gb285, 0, none⟩ (.int .i64 t283)).setCell ⟨gb285, 1, none⟩ (.int .i64 t284)).heap[gb282]? = some (.cells #[.int .i64 0, .int .i64 0, .int .i64 0] 32 (0, 0))) := ⟨by (with_reducible repeat (first | refine blk_drewN ?_ _ | refine blk_drew ?_ | refine blk_alloc ?_ _)); refine blk_far ?_ NB282_285.out _; (with_reducible repeat (first | refine blk_drewN ?_ _ | refine blk_drew ?_ | refine blk_alloc ?_ _)); refine blk_far ?_ NB282_285.out _; (with_reducible repeat (first | refine blk_drewN ?_ _ | refine blk_drew ?_ | refine blk_alloc ?_ _)); exact BK282.out⟩
 have n3_ : Aside0 (((w17.setCell ⟨gb285, 0, none⟩ (.int .i64 t283)).setCell ⟨gb285, 1, none⟩ (.int .i64 t284)).heap[gb285]? = some (.cells #[.int .i64 t283, .int .i64 t284] 23 (0, 0))) := ⟨by (with_reducible repeat (first | refine blk_drewN ?_ _ | refine blk_drew ?_ | refine blk_alloc ?_ _)); refine blk_put (cs := #[.int .i64 t283, .int .i64 0]) ?_ 1 _ rfl; (with_reducible repeat (first | refine blk_drewN ?_ _ | refine blk_drew ?_ | refine blk_alloc ?_ _)); refine blk_put (cs := #[.int .i64 0, .int .i64 0]) ?_ 0 _ rfl; (with_reducible repeat (first | refine blk_drewN ?_ _ | refine blk_drew ?_ | refine blk_alloc ?_ _)); exact BK285.out⟩
 have n4_ : Aside0 (Below w.heap.size w ((w17.setCell ⟨gb285, 0, none⟩ (.int .i64 t283)).setCell ⟨gb285, 1, none⟩ (.int .i64 t284))) := ⟨by repeat (first | (with_reducible first | exact HB.out | apply below_alloc | apply pw_below_drewN | apply below_drew1 | refine below_set ?_ GE280.out | refine below_set ?_ GE281.out | refine below_set ?_ GE282.out | refine below_set ?_ GE285.out) | exact HB.out)⟩
 (try clear BK280)
 (try clear BK281)
 (try clear BK282)
 (try clear BK285)
 (try clear HB)
 generalize ((w17.setCell ⟨gb285, 0, none⟩ (.int .i64 t283)).setCell ⟨gb285, 1, none⟩ (.int .i64 t284)) = w22 at n0_ n1_ n2_ n3_ n4_ ⊢
 have BK280 := n0_
 have BK281 := n1_
 have BK282 := n2_
 have BK285 := n3_
 have HB := n4_
 clear n0_ n1_ n2_ n3_ n4_
 have n0_ := Za (blk_drew BK280.out)
 have n1_ := Za (blk_drew BK281.out)
 have n2_ := Za (blk_drew BK282.out)
 have n3_ := Za (blk_drew BK285.out)
 have n4_ := Za (below_drew1 HB.out)
 clear BK280
 clear BK281
 clear BK282
 clear BK285
 clear HB
 have BK280 := n0_
 have BK281 := n1_
 have BK282 := n2_
 have BK285 := n3_
 have HB := n4_
 clear n0_ n1_ n2_ n3_ n4_
 refine start_ (n := 14) (S := fun w' => w'.cell? ⟨gb280, 0, none⟩ = some (.int .i64 a0_0) ∧ w'.cell? ⟨gb280, 1, none⟩ = some (.int .i64 a0_1) ∧ w'.cell? ⟨gb280, 2, none⟩ = some (.int .i64 a0_2) ∧ w'.cell? ⟨gb281, 0, none⟩ = some (.int .i64 a1_0) ∧ w'.cell? ⟨gb281, 1, none⟩ = some (.int .i64 a1_1) ∧ w'.cell? ⟨gb281, 2, none⟩ = some (.int .i64 a1_2) ∧ w'.cell? ⟨gb285, 0, none⟩ = some (.int .i64 t283) ∧ w'.cell? ⟨gb285, 1, none⟩ = some (.int .i64 t284)) (ds := []) #[Zf,Zf,Zf,Zf,Zf,Zf,Zf,Zf,Zf,Zf,Zf,Zf,Zf,Zf] (by kernel_rfl) rfl rfl ⟨(Xd BK280.out 0).trans rfl, (Xd BK280.out 1).trans rfl, (Xd BK280.out 2).trans rfl, (Xd BK281.out 0).trans rfl, (Xd BK281.out 1).trans rfl, (Xd BK281.out 2).trans rfl, (Xd BK285.out 0).trans rfl, (Xd BK285.out 1).trans rfl⟩ (fun hHeld => ?_); refine with_tabW gatherumref04_Then.tab2 gatherumref04_Then.bits2 (fun HT_ HW_ => ?_)
 generalize w22.drew = w23 at BK280 BK281 BK282 BK285 HB hHeld ⊢
 refine pure_ (i := 0) (N := some 13) (v := ?_) (a' := ?_) #[Zt,Zf,Zf,Zf,Zf,Zf,Zf,Zf,Zf,Zf,Zf,Zf,Zf,Zf] rfl rfl (any_of HT_.out (by kernel_rfl)) (fun _ _ _ h => h) (Or.inl ⟨by rfl, ?_⟩) ?_ ?_
 rotate_left
 ·intro w'
  go_simp
  with_reducible rfl
 rotate_left
 ·simp only [Act.put, Xa, Xb, Xc, i64_w, i32_w]
  rfl
 refine pure_ (i := 3) (N := some 16) (v := ?_) (a' := ?_) #[Zt,Zf,Zf,Zt,Zf,Zf,Zf,Zf,Zf,Zf,Zf,Zf,Zf,Zf] rfl rfl (any_of HT_.out (by kernel_rfl)) (fun _ _ _ h => h) (Or.inl ⟨by rfl, ?_⟩) ?_ ?_
 rotate_left
 ·intro w'
  go_simp
  with_reducible rfl
 rotate_left
 ·simp only [Act.put, Xa, Xb, Xc, i64_w, i32_w]
  rfl
 refine pure_ (i := 8) (N := some 21) (v := ?_) (a' := ?_) #[Zt,Zf,Zf,Zt,Zf,Zf,Zf,Zf,Zt,Zf,Zf,Zf,Zf,Zf] rfl rfl (any_of HT_.out (by kernel_rfl)) (fun _ _ _ h => h) (Or.inl ⟨by rfl, ?_⟩) ?_ ?_
 rotate_left
 ·intro w'
  go_simp
  with_reducible rfl
 rotate_left
 ·simp only [Act.put, Xa, Xb, Xc, i64_w, i32_w]
  rfl
 refine pure_ (i := 10) (N := some 23) (v := ?_) (a' := ?_) #[Zt,Zf,Zf,Zt,Zf,Zf,Zf,Zf,Zt,Zf,Zt,Zf,Zf,Zf] rfl rfl (any_of HT_.out (by kernel_rfl)) (fun _ _ _ h => h) (Or.inl ⟨by rfl, ?_⟩) ?_ ?_
 rotate_left
 ·intro w'
  go_simp
  with_reducible rfl
 rotate_left
 ·simp only [Act.put, Xa, Xb, Xc, i64_w, i32_w]
  rfl
 refine take_ (i := 1) (N := some 14) (v := ?_) (a' := ?_) #[Zt,Zt,Zf,Zt,Zf,Zf,Zf,Zf,Zt,Zf,Zt,Zf,Zf,Zf] rfl rfl (take_ofW HT_.out HW_.out (by kernel_rfl)) (fun _ _ _ h => h) (Or.inl ⟨by rfl, ?_⟩) hHeld ?_ ?_
 rotate_left
 ·rintro w' ⟨s0, s1, s2, s3, s4, s5, s6, s7⟩
  go_simp
  with_reducible rfl
 rotate_left
 ·simp only [Act.put, Xa, Xb, Xc, i64_w, i32_w]
  rfl
 refine take_ (i := 4) (N := some 17) (v := ?_) (a' := ?_) #[Zt,Zt,Zf,Zt,Zt,Zf,Zf,Zf,Zt,Zf,Zt,Zf,Zf,Zf] rfl rfl (take_ofW HT_.out HW_.out (by kernel_rfl)) (fun _ _ _ h => h) (Or.inl ⟨by rfl, ?_⟩) hHeld ?_ ?_
 rotate_left
 ·rintro w' ⟨s0, s1, s2, s3, s4, s5, s6, s7⟩
  go_simp
  with_reducible rfl
 rotate_left
 ·simp only [Act.put, Xa, Xb, Xc, i64_w, i32_w]
  rfl
 refine take_ (i := 9) (N := some 22) (v := ?_) (a' := ?_) #[Zt,Zt,Zf,Zt,Zt,Zf,Zf,Zf,Zt,Zt,Zt,Zf,Zf,Zf] rfl rfl (take_ofW HT_.out HW_.out (by kernel_rfl)) (fun _ _ _ h => h) (Or.inl ⟨by rfl, ?_⟩) hHeld ?_ ?_
 rotate_left
 ·rintro w' ⟨s0, s1, s2, s3, s4, s5, s6, s7⟩
  go_simp
  with_reducible rfl
 rotate_left
 ·simp only [Act.put, Xa, Xb, Xc, i64_w, i32_w]
  rfl
 refine take_ (i := 11) (N := some 24) (v := ?_) (a' := ?_) #[Zt,Zt,Zf,Zt,Zt,Zf,Zf,Zf,Zt,Zt,Zt,Zt,Zf,Zf] rfl rfl (take_ofW HT_.out HW_.out (by kernel_rfl)) (fun _ _ _ h => h) (Or.inl ⟨by rfl, ?_⟩) hHeld ?_ ?_
 rotate_left
 ·rintro w' ⟨s0, s1, s2, s3, s4, s5, s6, s7⟩
  go_simp
  with_reducible rfl
 rotate_left
 ·simp only [Act.put, Xa, Xb, Xc, i64_w, i32_w]
  rfl
 refine one_ (i := 2) (N := some 15) #[Zt,Zt,Zt,Zt,Zt,Zf,Zf,Zf,Zt,Zt,Zt,Zt,Zf,Zf] rfl rfl (one_of HT_.out (by kernel_rfl)) (by decide) (fun K hK => ?_)
 refine goes_ Try.func71 (by kernel_rfl) rfl #[.int .i64 a0_0] (by rfl) rfl rfl (by (try simp only [List.map_toArray, List.map_cons, List.map_nil]); first | done | rfl | (simp only [List.length_drop, List.length_take]; rfl)) ?_
 with_reducible refine (gatherumref03_Of.calls k a0_0 t286 t287 t288 t289 _ A4.out).mono ?_
 rintro e w24 ⟨rfl, hb⟩
 refine ⟨_, rfl, ?_⟩
 have n0_ := Za (blk_below (g := gb280) (o := .cells #[.int .i64 a0_0, .int .i64 a0_1, .int .i64 a0_2] 32 (0, 0)) (bb_10 BK280.out) hb)
 have n1_ := Za (blk_below (g := gb281) (o := .cells #[.int .i64 a1_0, .int .i64 a1_1, .int .i64 a1_2] 32 (0, 0)) (bb_10 BK281.out) hb)
 have n2_ := Za (blk_below (g := gb282) (o := .cells #[.int .i64 0, .int .i64 0, .int .i64 0] 32 (0, 0)) (bb_10 BK282.out) hb)
 have n3_ := Za (blk_below (g := gb285) (o := .cells #[.int .i64 t283, .int .i64 t284] 23 (0, 0)) (bb_10 BK285.out) hb)
 have n4_ := Za (below_step (hb_10 HB.out) hb)
 clear BK280
 clear BK281
 clear BK282
 clear BK285
 clear HB
 have BK280 := n0_
 have BK281 := n1_
 have BK282 := n2_
 have BK285 := n3_
 have HB := n4_
 clear n0_ n1_ n2_ n3_ n4_
 (try clear hb)
 (try clear hb2)
 (try clear hk)
 (try clear hi)
 refine hK.out _ _ ⟨(Xd BK280.out 0).trans rfl, (Xd BK280.out 1).trans rfl, (Xd BK280.out 2).trans rfl, (Xd BK281.out 0).trans rfl, (Xd BK281.out 1).trans rfl, (Xd BK281.out 2).trans rfl, (Xd BK285.out 0).trans rfl, (Xd BK285.out 1).trans rfl⟩ (fun hHeld => ?_)
 clear hK K
 refine norm_ (a' := ?_) ?_ ?_
 rotate_left
 ·show Act.put _ (some 15) _ = _
  simp only [Act.put, Xa, Xb, Xc, i64_w, i32_w]
  rfl
 refine one_ (i := 5) (N := some 18) #[Zt,Zt,Zt,Zt,Zt,Zt,Zf,Zf,Zt,Zt,Zt,Zt,Zf,Zf] rfl rfl (one_of HT_.out (by kernel_rfl)) (by decide) (fun K hK => ?_)
 refine goes_ Try.func71 (by kernel_rfl) rfl #[.int .i64 a1_0] (by rfl) rfl rfl (by (try simp only [List.map_toArray, List.map_cons, List.map_nil]); first | done | rfl | (simp only [List.length_drop, List.length_take]; rfl)) ?_
 with_reducible refine (gatherumref03_Of.calls k a1_0 t290 t291 t292 t293 _ A5.out).mono ?_
 rintro e w25 ⟨rfl, hb⟩
 refine ⟨_, rfl, ?_⟩
 have n0_ := Za (blk_below (g := gb280) (o := .cells #[.int .i64 a0_0, .int .i64 a0_1, .int .i64 a0_2] 32 (0, 0)) (bb_10 BK280.out) hb)
 have n1_ := Za (blk_below (g := gb281) (o := .cells #[.int .i64 a1_0, .int .i64 a1_1, .int .i64 a1_2] 32 (0, 0)) (bb_10 BK281.out) hb)
 have n2_ := Za (blk_below (g := gb282) (o := .cells #[.int .i64 0, .int .i64 0, .int .i64 0] 32 (0, 0)) (bb_10 BK282.out) hb)
 have n3_ := Za (blk_below (g := gb285) (o := .cells #[.int .i64 t283, .int .i64 t284] 23 (0, 0)) (bb_10 BK285.out) hb)
 have n4_ := Za (below_step (hb_10 HB.out) hb)
 clear BK280
 clear BK281
 clear BK282
 clear BK285
 clear HB
 have BK280 := n0_
 have BK281 := n1_
 have BK282 := n2_
 have BK285 := n3_
 have HB := n4_
 clear n0_ n1_ n2_ n3_ n4_
 (try clear hb)
 (try clear hb2)
 (try clear hk)
 (try clear hi)
 refine hK.out _ _ ⟨(Xd BK280.out 0).trans rfl, (Xd BK280.out 1).trans rfl, (Xd BK280.out 2).trans rfl, (Xd BK281.out 0).trans rfl, (Xd BK281.out 1).trans rfl, (Xd BK281.out 2).trans rfl, (Xd BK285.out 0).trans rfl, (Xd BK285.out 1).trans rfl⟩ (fun hHeld => ?_)
 clear hK K
 refine norm_ (a' := ?_) ?_ ?_
 rotate_left
 ·show Act.put _ (some 18) _ = _
  simp only [Act.put, Xa, Xb, Xc, i64_w, i32_w]
  rfl
 refine one_ (i := 6) (N := some 19) #[Zt,Zt,Zt,Zt,Zt,Zt,Zt,Zf,Zt,Zt,Zt,Zt,Zf,Zf] rfl rfl (one_of HT_.out (by kernel_rfl)) (by decide) (fun K hK => ?_)
 refine goes_ Try.func82 (by kernel_rfl) rfl #[.agg #[.int .i64 t286, .int .i64 t287, .int .i64 t288, .int .i64 t289], .agg #[.int .i64 t290, .int .i64 t291, .int .i64 t292, .int .i64 t293]] (by rfl) rfl rfl (by (try simp only [List.map_toArray, List.map_cons, List.map_nil]); first | done | rfl | (simp only [List.length_drop, List.length_take]; rfl)) ?_
 with_reducible refine (gatherumref03_Then.calls t286 t287 t288 t289 t290 t291 t292 t293 t294 t295 t296 t297 _ A6.out).mono ?_
 rintro e w26 ⟨rfl, hb⟩
 refine ⟨_, rfl, ?_⟩
 have n0_ := Za (blk_below (g := gb280) (o := .cells #[.int .i64 a0_0, .int .i64 a0_1, .int .i64 a0_2] 32 (0, 0)) (bb_10 BK280.out) hb)
 have n1_ := Za (blk_below (g := gb281) (o := .cells #[.int .i64 a1_0, .int .i64 a1_1, .int .i64 a1_2] 32 (0, 0)) (bb_10 BK281.out) hb)
 have n2_ := Za (blk_below (g := gb282) (o := .cells #[.int .i64 0, .int .i64 0, .int .i64 0] 32 (0, 0)) (bb_10 BK282.out) hb)
 have n3_ := Za (blk_below (g := gb285) (o := .cells #[.int .i64 t283, .int .i64 t284] 23 (0, 0)) (bb_10 BK285.out) hb)
 have n4_ := Za (below_step (hb_10 HB.out) hb)
 clear BK280
 clear BK281
 clear BK282
 clear BK285
 clear HB
 have BK280 := n0_
 have BK281 := n1_
 have BK282 := n2_
 have BK285 := n3_
 have HB := n4_
 clear n0_ n1_ n2_ n3_ n4_
 (try clear hb)
 (try clear hb2)
 (try clear hk)
 (try clear hi)
 refine hK.out _ _ ⟨(Xd BK280.out 0).trans rfl, (Xd BK280.out 1).trans rfl, (Xd BK280.out 2).trans rfl, (Xd BK281.out 0).trans rfl, (Xd BK281.out 1).trans rfl, (Xd BK281.out 2).trans rfl, (Xd BK285.out 0).trans rfl, (Xd BK285.out 1).trans rfl⟩ (fun hHeld => ?_)
 clear hK K
 refine norm_ (a' := ?_) ?_ ?_
 rotate_left
 ·show Act.put _ (some 19) _ = _
  simp only [Act.put, Xa, Xb, Xc, i64_w, i32_w]
  rfl
 refine one_ (i := 7) (N := some 20) #[Zt,Zt,Zt,Zt,Zt,Zt,Zt,Zt,Zt,Zt,Zt,Zt,Zf,Zf] rfl rfl (one_of HT_.out (by kernel_rfl)) (by decide) (fun K hK => ?_)
 refine goes_ Try.func85 (by kernel_rfl) rfl #[.agg #[.int .i64 t294, .int .i64 t295, .int .i64 t296, .int .i64 t297]] (by rfl) rfl rfl (by (try simp only [List.map_toArray, List.map_cons, List.map_nil]); first | done | rfl | (simp only [List.length_drop, List.length_take]; rfl)) ?_
 with_reducible refine (gatherumref03_Turn.calls k t294 t295 t296 t297 t298 _ A7.out).mono ?_
 rintro e w27 ⟨rfl, hb⟩
 refine ⟨_, rfl, ?_⟩
 have n0_ := Za (blk_below (g := gb280) (o := .cells #[.int .i64 a0_0, .int .i64 a0_1, .int .i64 a0_2] 32 (0, 0)) (bb_10 BK280.out) hb)
 have n1_ := Za (blk_below (g := gb281) (o := .cells #[.int .i64 a1_0, .int .i64 a1_1, .int .i64 a1_2] 32 (0, 0)) (bb_10 BK281.out) hb)
 have n2_ := Za (blk_below (g := gb282) (o := .cells #[.int .i64 0, .int .i64 0, .int .i64 0] 32 (0, 0)) (bb_10 BK282.out) hb)
 have n3_ := Za (blk_below (g := gb285) (o := .cells #[.int .i64 t283, .int .i64 t284] 23 (0, 0)) (bb_10 BK285.out) hb)
 have n4_ := Za (below_step (hb_10 HB.out) hb)
 clear BK280
 clear BK281
 clear BK282
 clear BK285
 clear HB
 have BK280 := n0_
 have BK281 := n1_
 have BK282 := n2_
 have BK285 := n3_
 have HB := n4_
 clear n0_ n1_ n2_ n3_ n4_
 (try clear hb)
 (try clear hb2)
 (try clear hk)
 (try clear hi)
 refine hK.out _ _ ⟨(Xd BK280.out 0).trans rfl, (Xd BK280.out 1).trans rfl, (Xd BK280.out 2).trans rfl, (Xd BK281.out 0).trans rfl, (Xd BK281.out 1).trans rfl, (Xd BK281.out 2).trans rfl, (Xd BK285.out 0).trans rfl, (Xd BK285.out 1).trans rfl⟩ (fun hHeld => ?_)
 clear hK K
 refine norm_ (a' := ?_) ?_ ?_
 rotate_left
 ·show Act.put _ (some 20) _ = _
  simp only [Act.put, Xa, Xb, Xc, i64_w, i32_w]
  rfl
 refine pure_ (i := 12) (N := some 25) (v := ?_) (a' := ?_) #[Zt,Zt,Zt,Zt,Zt,Zt,Zt,Zt,Zt,Zt,Zt,Zt,Zt,Zf] rfl rfl (any_of HT_.out (by kernel_rfl)) (fun _ _ _ h => h) (Or.inl ⟨by rfl, ?_⟩) ?_ ?_
 rotate_left
 ·intro w'
  go_simp
  with_reducible rfl
 rotate_left
 ·simp only [Act.put, Xa, Xb, Xc, i64_w, i32_w]
  rfl
 refine one_ (i := 13) (N := none) #[Zt,Zt,Zt,Zt,Zt,Zt,Zt,Zt,Zt,Zt,Zt,Zt,Zt,Zt] rfl rfl (one_of HT_.out (by kernel_rfl)) (by decide) (fun K hK => ?_)
 have hs28 : w27.cell? ⟨gb282, 0, none⟩ = some (.int .i64 0) := (Xd BK282.out 0).trans rfl
 have hfs28 := blk_frozen BK282.out 0
 have hns28_0 := NB280_282.out
 have hns28_1 := NB281_282.out
 have hns28_3 := NB285_282.out
 have hms28_0 := NB282_280.out
 have hms28_1 := NB282_281.out
 have hms28_3 := NB282_285.out
 have hs29 : w27.cell? ⟨gb282, 1, none⟩ = some (.int .i64 0) := (Xd BK282.out 1).trans rfl
 have hfs29 := blk_frozen BK282.out 1
 have hns29_0 := NB280_282.out
 have hns29_1 := NB281_282.out
 have hns29_3 := NB285_282.out
 have hms29_0 := NB282_280.out
 have hms29_1 := NB282_281.out
 have hms29_3 := NB282_285.out
 have hs30 : w27.cell? ⟨gb282, 2, none⟩ = some (.int .i64 0) := (Xd BK282.out 2).trans rfl
 have hfs30 := blk_frozen BK282.out 2
 have hns30_0 := NB280_282.out
 have hns30_1 := NB281_282.out
 have hns30_3 := NB285_282.out
 have hms30_0 := NB282_280.out
 have hms30_1 := NB282_281.out
 have hms30_3 := NB282_285.out
 refine skip_ (w1 := ?_) (by rfl) rfl ?_ ?_
 rotate_left
 ·go_simp
  rfl
 refine hK.out _ _ ⟨((cell_far (p := ⟨gb282, _, none⟩) NB280_282.out _).trans (((cell_far (p := ⟨gb282, _, none⟩) NB280_282.out _).trans (((cell_far (p := ⟨gb282, _, none⟩) NB280_282.out _).trans (hHeld.1)))))), ((cell_far (p := ⟨gb282, _, none⟩) NB280_282.out _).trans (((cell_far (p := ⟨gb282, _, none⟩) NB280_282.out _).trans (((cell_far (p := ⟨gb282, _, none⟩) NB280_282.out _).trans (hHeld.2.1)))))), ((cell_far (p := ⟨gb282, _, none⟩) NB280_282.out _).trans (((cell_far (p := ⟨gb282, _, none⟩) NB280_282.out _).trans (((cell_far (p := ⟨gb282, _, none⟩) NB280_282.out _).trans (hHeld.2.2.1)))))), ((cell_far (p := ⟨gb282, _, none⟩) NB281_282.out _).trans (((cell_far (p := ⟨gb282, _, none⟩) NB281_282.out _).trans (((cell_far (p := ⟨gb282, _, none⟩) NB281_282.out _).trans (hHeld.2.2.2.1)))))), ((cell_far (p := ⟨gb282, _, none⟩) NB281_282.out _).trans (((cell_far (p := ⟨gb282, _, none⟩) NB281_282.out _).trans (((cell_far (p := ⟨gb282, _, none⟩) NB281_282.out _).trans (hHeld.2.2.2.2.1)))))), ((cell_far (p := ⟨gb282, _, none⟩) NB281_282.out _).trans (((cell_far (p := ⟨gb282, _, none⟩) NB281_282.out _).trans (((cell_far (p := ⟨gb282, _, none⟩) NB281_282.out _).trans (hHeld.2.2.2.2.2.1)))))), ((cell_far (p := ⟨gb282, _, none⟩) NB285_282.out _).trans (((cell_far (p := ⟨gb282, _, none⟩) NB285_282.out _).trans (((cell_far (p := ⟨gb282, _, none⟩) NB285_282.out _).trans (hHeld.2.2.2.2.2.2.1)))))), ((cell_far (p := ⟨gb282, _, none⟩) NB285_282.out _).trans (((cell_far (p := ⟨gb282, _, none⟩) NB285_282.out _).trans (((cell_far (p := ⟨gb282, _, none⟩) NB285_282.out _).trans (hHeld.2.2.2.2.2.2.2))))))⟩ (fun hHeld => ?_)
 clear hK K
 refine done_ (done_of HT_.out (by kernel_rfl)) ?_
 try go_wp2
 refine bodyPost_ret (results_cell_row rfl _ _ gb282 32 #[.int .i64 t298, .int .i64 t283, .int .i64 t284] (0, 0) _ rfl (by (with_reducible repeat (first | refine blk_drewN ?_ _ | refine blk_drew ?_ | refine blk_alloc ?_ _)); refine blk_put (cs := #[.int .i64 t298, .int .i64 t283, .int .i64 0]) ?_ 2 _ rfl; (with_reducible repeat (first | refine blk_drewN ?_ _ | refine blk_drew ?_ | refine blk_alloc ?_ _)); refine blk_put (cs := #[.int .i64 t298, .int .i64 0, .int .i64 0]) ?_ 1 _ rfl; (with_reducible repeat (first | refine blk_drewN ?_ _ | refine blk_drew ?_ | refine blk_alloc ?_ _)); refine blk_put (cs := #[.int .i64 0, .int .i64 0, .int .i64 0]) ?_ 0 _ rfl; (with_reducible repeat (first | refine blk_drewN ?_ _ | refine blk_drew ?_ | refine blk_alloc ?_ _)); exact BK282.out) Try.underlying32 rfl (by kernel_rfl)) rfl ?_
 exact ⟨by first | rfl | (simp [errW_none, errW_some] <;> rfl) | (simp [*, errW_none, errW_some] <;> rfl), by repeat (first | (with_reducible first | exact HB.out | apply below_alloc | apply pw_below_drewN | apply below_drew1 | refine below_set ?_ GE280.out | refine below_set ?_ GE281.out | refine below_set ?_ GE282.out | refine below_set ?_ GE285.out) | exact HB.out)⟩

end Go.Proofs.Ythgmjhidigoneaa.PLayerLies
