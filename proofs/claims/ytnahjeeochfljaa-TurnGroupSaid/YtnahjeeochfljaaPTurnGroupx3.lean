-- PRINTED BY print.sh 35421559b90ae4d0a3588c463048766b98c2df88dd9212a6774a882060cdf62d: not written by this session
import Derived.Test.YtnahjeeochfljaaPTurnGroupx0
import Derived.Test.YtnahjeeochfljaaPTurnGroupx2
namespace Go.Proofs.Ytnahjeeochfljaa.PTurnGroup
open Go.RowKit Go.Proofs.YtnahjeeochfljaaW.PrintWords Go.Proofs.YtnahjeeochfljaaW.PrintLast Go.Proofs.YtnahjeeochfljaaW.PrintMore
attribute [local go_sem] max2_int min2_int max_two min_two max_three min_three max_four min_four   -- for this text's walks alone
set_option linter.unusedVariables false
set_option linter.unusedSimpArgs false

/-! ### gatherumlaw05_TurnGroup: function 8 -/
def gatherumlaw05_TurnGroup.j0 : Nat → Int → Bool → Option (Bool)
  | 0, _, _ => none
  | k + 1, x0, x32 => if x32 = true then (some false) else ((turn_Back.f x0).bind fun t154 => (if t154 ≥ 0 then (if t154 ≤ 7 then ((turn_Then.f x0 t154).bind fun t155 => (if t155 = 0 then ((turn_Then.f t154 x0).bind fun t156 => (if t156 = 0 then ((turn_Then.f 0 x0).bind fun t157 => (if t157 = (Go.bits .and .i64 x0 7) then ((turn_Then.f x0 0).bind fun t158 => (some (t158 == (Go.bits .and .i64 x0 7)))) else (some false))) else (some false))) else (some false))) else (some false)) else (some false)))
def gatherumlaw05_TurnGroup.f (k : Nat) (a0 : Int) (a1 : Int) (a2 : Int) : Option (Bool) := (gatherumlaw05_alive.f k).bind fun t136 => (if t136 = true then ((turn_Then.f a0 a1).bind fun t137 => ((gatherumref03_Of.f k a0).bind fun bt138 => ((gatherumref03_Of.f k a1).bind fun bt142 => ((gatherumref03_Then.f bt138.1 bt138.2.1 bt138.2.2.1 bt138.2.2.2 bt142.1 bt142.2.1 bt142.2.2.1 bt142.2.2.2).bind fun bt146 => ((gatherumref03_Turn.f k bt146.1 bt146.2.1 bt146.2.2.1 bt146.2.2.2).bind fun t150 => (if t137 = t150 then ((turn_Then.f t137 a2).bind fun t151 => ((turn_Then.f a1 a2).bind fun t152 => ((turn_Then.f a0 t152).bind fun t153 => (gatherumlaw05_TurnGroup.j0 k a0 (t151 != t153))))) else (gatherumlaw05_TurnGroup.j0 k a0 true))))))) else (some false))
theorem gatherumlaw05_TurnGroup.mono_l : ∀ k, (∀ y0 y1, LeO (gatherumlaw05_TurnGroup.j0 k y0 y1) (gatherumlaw05_TurnGroup.j0 (k + 1) y0 y1))
  | 0 => fun _ _ r h => by simp [gatherumlaw05_TurnGroup.j0] at h
  | k + 1 => by
    have ih0 := gatherumlaw05_TurnGroup.mono_l k
    · intro y0 y1
      unfold gatherumlaw05_TurnGroup.j0
      repeat' first
      | (with_reducible exact ih0 _ _)
      | (with_reducible exact gatherumlaw05_alive.mono _)
      | (with_reducible exact gatherumref03_Of.mono _ _)
      | (with_reducible exact gatherumref03_Turn.mono _ _ _ _ _)
      | (with_reducible exact LeO.refl _)
      | (with_reducible exact LeO.none _)
      | (with_reducible refine LeO.ite ?_ ?_)
      | (with_reducible refine LeO.bind ?_ (fun _ => ?_))
      | exact ih0 _ _
      | exact gatherumlaw05_alive.mono _
      | exact gatherumref03_Of.mono _ _
      | exact gatherumref03_Turn.mono _ _ _ _ _
      | exact LeO.none _
      | refine LeO.ite ?_ ?_
      | refine LeO.bind ?_ (fun _ => ?_)
theorem gatherumlaw05_TurnGroup.mono : ∀ a0 a1 a2 k, LeO (gatherumlaw05_TurnGroup.f k a0 a1 a2) (gatherumlaw05_TurnGroup.f (k + 1) a0 a1 a2) := by
  intro a0 a1 a2 k
  have ih0 := gatherumlaw05_TurnGroup.mono_l k
  unfold gatherumlaw05_TurnGroup.f
  repeat' first
      | (with_reducible exact ih0 _ _)
      | (with_reducible exact gatherumlaw05_alive.mono _)
      | (with_reducible exact gatherumref03_Of.mono _ _)
      | (with_reducible exact gatherumref03_Turn.mono _ _ _ _ _)
      | (with_reducible exact LeO.refl _)
      | (with_reducible exact LeO.none _)
      | (with_reducible refine LeO.ite ?_ ?_)
      | (with_reducible refine LeO.bind ?_ (fun _ => ?_))
      | exact ih0 _ _
      | exact gatherumlaw05_alive.mono _
      | exact gatherumref03_Of.mono _ _
      | exact gatherumref03_Turn.mono _ _ _ _ _
      | exact LeO.none _
      | refine LeO.ite ?_ ?_
      | refine LeO.bind ?_ (fun _ => ?_)
set_option maxHeartbeats 8000000 in
set_option maxRecDepth 100000 in
theorem gatherumlaw05_TurnGroup.calls (k : Nat) (a0 : Int) (a1 : Int) (a2 : Int) (r : Bool) (w : World) (h : gatherumlaw05_TurnGroup.f k a0 a1 a2 = some r) :
    Calls Try.prog 8 #[.int .i64 a0, .int .i64 a1, .int .i64 a2] w fun e w' => e = .returned (.bool r) ∧ Below w.heap.size w w' := by
  have HB := Aside0.mk (Below.refl w.heap.size w)
  have H : ((gatherumlaw05_alive.f k).bind fun t136 => (if t136 = true then ((turn_Then.f a0 a1).bind fun t137 => ((gatherumref03_Of.f k a0).bind fun bt138 => ((gatherumref03_Of.f k a1).bind fun bt142 => ((gatherumref03_Then.f bt138.1 bt138.2.1 bt138.2.2.1 bt138.2.2.2 bt142.1 bt142.2.1 bt142.2.2.1 bt142.2.2.2).bind fun bt146 => ((gatherumref03_Turn.f k bt146.1 bt146.2.1 bt146.2.2.1 bt146.2.2.2).bind fun t150 => (if t137 = t150 then ((turn_Then.f t137 a2).bind fun t151 => ((turn_Then.f a1 a2).bind fun t152 => ((turn_Then.f a0 t152).bind fun t153 => (gatherumlaw05_TurnGroup.j0 k a0 (t151 != t153))))) else (gatherumlaw05_TurnGroup.j0 k a0 true))))))) else (some false))) = some r := h
  clear h
  replace H := Option.bind_eq_some_iff.mp H
  obtain ⟨t136, A40, H⟩ := H
  replace H : (if t136 = true then ((turn_Then.f a0 a1).bind fun t137 => ((gatherumref03_Of.f k a0).bind fun bt138 => ((gatherumref03_Of.f k a1).bind fun bt142 => ((gatherumref03_Then.f bt138.1 bt138.2.1 bt138.2.2.1 bt138.2.2.2 bt142.1 bt142.2.1 bt142.2.2.1 bt142.2.2.2).bind fun bt146 => ((gatherumref03_Turn.f k bt146.1 bt146.2.1 bt146.2.2.1 bt146.2.2.2).bind fun t150 => (if t137 = t150 then ((turn_Then.f t137 a2).bind fun t151 => ((turn_Then.f a1 a2).bind fun t152 => ((turn_Then.f a0 t152).bind fun t153 => (gatherumlaw05_TurnGroup.j0 k a0 (t151 != t153))))) else (gatherumlaw05_TurnGroup.j0 k a0 true))))))) else (some false)) = some r := H
  have A4 := Aside0.mk A40
  clear A40
  by_cases c5 : t136 = true
  · subst c5
    have H1 : ((turn_Then.f a0 a1).bind fun t137 => ((gatherumref03_Of.f k a0).bind fun bt138 => ((gatherumref03_Of.f k a1).bind fun bt142 => ((gatherumref03_Then.f bt138.1 bt138.2.1 bt138.2.2.1 bt138.2.2.2 bt142.1 bt142.2.1 bt142.2.2.1 bt142.2.2.2).bind fun bt146 => ((gatherumref03_Turn.f k bt146.1 bt146.2.1 bt146.2.2.1 bt146.2.2.2).bind fun t150 => (if t137 = t150 then ((turn_Then.f t137 a2).bind fun t151 => ((turn_Then.f a1 a2).bind fun t152 => ((turn_Then.f a0 t152).bind fun t153 => (gatherumlaw05_TurnGroup.j0 k a0 (t151 != t153))))) else (gatherumlaw05_TurnGroup.j0 k a0 true))))))) = some r := by rw [if_pos rfl] at H; exact H
    clear H
    have H := H1
    clear H1
    replace H := Option.bind_eq_some_iff.mp H
    obtain ⟨t137, A60, H⟩ := H
    replace H : ((gatherumref03_Of.f k a0).bind fun bt138 => ((gatherumref03_Of.f k a1).bind fun bt142 => ((gatherumref03_Then.f bt138.1 bt138.2.1 bt138.2.2.1 bt138.2.2.2 bt142.1 bt142.2.1 bt142.2.2.1 bt142.2.2.2).bind fun bt146 => ((gatherumref03_Turn.f k bt146.1 bt146.2.1 bt146.2.2.1 bt146.2.2.2).bind fun t150 => (if t137 = t150 then ((turn_Then.f t137 a2).bind fun t151 => ((turn_Then.f a1 a2).bind fun t152 => ((turn_Then.f a0 t152).bind fun t153 => (gatherumlaw05_TurnGroup.j0 k a0 (t151 != t153))))) else (gatherumlaw05_TurnGroup.j0 k a0 true)))))) = some r := H
    have A6 := Aside0.mk A60
    clear A60
    have HC7 := Aside0.mk H
    clear H
    go_enter Try.func8, Try.ntmps8
    go_upto_region 4 with (first | ((with_reducible refine gate_callee (f := 25) rfl ?_); refine goesL_ (some 9) rfl rfl Try.func25 (by kernel_rfl) rfl #[] rfl (by (try simp only [List.map_toArray, List.map_cons, List.map_nil]); first | done | rfl | (simp only [List.length_drop, List.length_take]; rfl)) ?_; (with_reducible refine (gatherumlaw05_alive.calls k  true _ A4.out).mono ?_); rintro e w8 ⟨rfl, hb⟩; refine ⟨_, rfl, ?_⟩; have n0_ := Aside0.mk (below_step (by repeat (first | (with_reducible first | exact HB.out | apply below_alloc | apply pw_below_drewN | apply below_drew1) | exact HB.out)) hb); clear HB; have HB := n0_; clear n0_; (try clear hb); (try clear hb2); (try clear hk); (try clear hi)) | ((with_reducible refine gate_callee (f := 40) rfl ?_); refine goesL_ (some 13) rfl rfl Try.func40 (by kernel_rfl) rfl #[.int .i64 a0, .int .i64 a1] rfl (by (try simp only [List.map_toArray, List.map_cons, List.map_nil]); first | done | rfl | (simp only [List.length_drop, List.length_take]; rfl)) ?_; (with_reducible refine (turn_Then.calls a0 a1 t137 _ A6.out).mono ?_); rintro e w' ⟨rfl, ⟨nd, rfl⟩⟩; refine ⟨_, rfl, ?_⟩))
    (try simp only [Act.put, List.setIfInBounds_toArray, List.set_cons_zero, List.set_cons_succ])
    go_cut [32] (fun v32 wc => ∃ (kq : Nat) (x32_6 : Bool), v32 = .bool x32_6 ∧ Aside0 (gatherumlaw05_TurnGroup.j0 kq a0 x32_6 = some r) ∧ Aside0 (kq ≤ k) ∧ Aside0 (Below w.heap.size w wc))
    case first =>
      have H := HC7.out
      clear HC7
      replace H := Option.bind_eq_some_iff.mp H
      obtain ⟨⟨t138, t139, t140, t141⟩, A90, H⟩ := H
      replace H : ((gatherumref03_Of.f k a1).bind fun bt142 => ((gatherumref03_Then.f t138 t139 t140 t141 bt142.1 bt142.2.1 bt142.2.2.1 bt142.2.2.2).bind fun bt146 => ((gatherumref03_Turn.f k bt146.1 bt146.2.1 bt146.2.2.1 bt146.2.2.2).bind fun t150 => (if t137 = t150 then ((turn_Then.f t137 a2).bind fun t151 => ((turn_Then.f a1 a2).bind fun t152 => ((turn_Then.f a0 t152).bind fun t153 => (gatherumlaw05_TurnGroup.j0 k a0 (t151 != t153))))) else (gatherumlaw05_TurnGroup.j0 k a0 true))))) = some r := H
      have A9 := Aside0.mk A90
      clear A90
      replace H := Option.bind_eq_some_iff.mp H
      obtain ⟨⟨t142, t143, t144, t145⟩, A100, H⟩ := H
      replace H : ((gatherumref03_Then.f t138 t139 t140 t141 t142 t143 t144 t145).bind fun bt146 => ((gatherumref03_Turn.f k bt146.1 bt146.2.1 bt146.2.2.1 bt146.2.2.2).bind fun t150 => (if t137 = t150 then ((turn_Then.f t137 a2).bind fun t151 => ((turn_Then.f a1 a2).bind fun t152 => ((turn_Then.f a0 t152).bind fun t153 => (gatherumlaw05_TurnGroup.j0 k a0 (t151 != t153))))) else (gatherumlaw05_TurnGroup.j0 k a0 true)))) = some r := H
      have A10 := Aside0.mk A100
      clear A100
      replace H := Option.bind_eq_some_iff.mp H
      obtain ⟨⟨t146, t147, t148, t149⟩, A110, H⟩ := H
      replace H : ((gatherumref03_Turn.f k t146 t147 t148 t149).bind fun t150 => (if t137 = t150 then ((turn_Then.f t137 a2).bind fun t151 => ((turn_Then.f a1 a2).bind fun t152 => ((turn_Then.f a0 t152).bind fun t153 => (gatherumlaw05_TurnGroup.j0 k a0 (t151 != t153))))) else (gatherumlaw05_TurnGroup.j0 k a0 true))) = some r := H
      have A11 := Aside0.mk A110
      clear A110
      replace H := Option.bind_eq_some_iff.mp H
      obtain ⟨t150, A120, H⟩ := H
      replace H : (if t137 = t150 then ((turn_Then.f t137 a2).bind fun t151 => ((turn_Then.f a1 a2).bind fun t152 => ((turn_Then.f a0 t152).bind fun t153 => (gatherumlaw05_TurnGroup.j0 k a0 (t151 != t153))))) else (gatherumlaw05_TurnGroup.j0 k a0 true)) = some r := H
      have A12 := Aside0.mk A120
      clear A120
      by_cases c13 : t137 = t150
      · rw [if_pos c13] at H
        have c13b0 : (t137 == t150) = true := beq_iff_eq.mpr c13
        have c13b1 : (t137 != t150) = false := bne_eq_false_iff_eq.mpr c13
        clear c13
        (first | rw [c13b0] | (simp only [i64_w, i32_w]; rw [c13b0]) | skip)
        replace H := Option.bind_eq_some_iff.mp H
        obtain ⟨t151, A140, H⟩ := H
        replace H : ((turn_Then.f a1 a2).bind fun t152 => ((turn_Then.f a0 t152).bind fun t153 => (gatherumlaw05_TurnGroup.j0 k a0 (t151 != t153)))) = some r := H
        have A14 := Aside0.mk A140
        clear A140
        replace H := Option.bind_eq_some_iff.mp H
        obtain ⟨t152, A150, H⟩ := H
        replace H : ((turn_Then.f a0 t152).bind fun t153 => (gatherumlaw05_TurnGroup.j0 k a0 (t151 != t153))) = some r := H
        have A15 := Aside0.mk A150
        clear A150
        replace H := Option.bind_eq_some_iff.mp H
        obtain ⟨t153, A160, H⟩ := H
        replace H : (gatherumlaw05_TurnGroup.j0 k a0 (t151 != t153)) = some r := H
        have A16 := Aside0.mk A160
        clear A160
        have H' := Aside0.mk H
        clear H
        go_wp2_with (first | ((with_reducible refine gate_callee (f := 43) rfl ?_); refine goesL_ (some 16) rfl rfl Try.func43 (by kernel_rfl) rfl #[.int .i64 a0] rfl (by (try simp only [List.map_toArray, List.map_cons, List.map_nil]); first | done | rfl | (simp only [List.length_drop, List.length_take]; rfl)) ?_; (with_reducible refine (gatherumref03_Of.calls k a0 t138 t139 t140 t141 _ A9.out).mono ?_); rintro e w17 ⟨rfl, hb⟩; refine ⟨_, rfl, ?_⟩; have n0_ := Aside0.mk (below_step (by repeat (first | (with_reducible first | exact HB.out | apply below_alloc | apply pw_below_drewN | apply below_drew1) | exact HB.out)) hb); clear HB; have HB := n0_; clear n0_; (try clear hb); (try clear hb2); (try clear hk); (try clear hi)) | ((with_reducible refine gate_callee (f := 43) rfl ?_); refine goesL_ (some 18) rfl rfl Try.func43 (by kernel_rfl) rfl #[.int .i64 a1] rfl (by (try simp only [List.map_toArray, List.map_cons, List.map_nil]); first | done | rfl | (simp only [List.length_drop, List.length_take]; rfl)) ?_; (with_reducible refine (gatherumref03_Of.calls k a1 t142 t143 t144 t145 _ A10.out).mono ?_); rintro e w18 ⟨rfl, hb⟩; refine ⟨_, rfl, ?_⟩; have n0_ := Aside0.mk (below_step (by repeat (first | (with_reducible first | exact HB.out | apply below_alloc | apply pw_below_drewN | apply below_drew1) | exact HB.out)) hb); clear HB; have HB := n0_; clear n0_; (try clear hb); (try clear hb2); (try clear hk); (try clear hi)) | ((with_reducible refine gate_callee (f := 42) rfl ?_); refine goesL_ (some 19) rfl rfl Try.func42 (by kernel_rfl) rfl #[.agg #[.int .i64 t138, .int .i64 t139, .int .i64 t140, .int .i64 t141], .agg #[.int .i64 t142, .int .i64 t143, .int .i64 t144, .int .i64 t145]] rfl (by (try simp only [List.map_toArray, List.map_cons, List.map_nil]); first | done | rfl | (simp only [List.length_drop, List.length_take]; rfl)) ?_; (with_reducible refine (gatherumref03_Then.calls t138 t139 t140 t141 t142 t143 t144 t145 t146 t147 t148 t149 _ A11.out).mono ?_); rintro e w19 ⟨rfl, hb⟩; refine ⟨_, rfl, ?_⟩; have n0_ := Aside0.mk (below_step (by repeat (first | (with_reducible first | exact HB.out | apply below_alloc | apply pw_below_drewN | apply below_drew1) | exact HB.out)) hb); clear HB; have HB := n0_; clear n0_; (try clear hb); (try clear hb2); (try clear hk); (try clear hi)) | ((with_reducible refine gate_callee (f := 41) rfl ?_); refine goesL_ (some 20) rfl rfl Try.func41 (by kernel_rfl) rfl #[.agg #[.int .i64 t146, .int .i64 t147, .int .i64 t148, .int .i64 t149]] rfl (by (try simp only [List.map_toArray, List.map_cons, List.map_nil]); first | done | rfl | (simp only [List.length_drop, List.length_take]; rfl)) ?_; (with_reducible refine (gatherumref03_Turn.calls k t146 t147 t148 t149 t150 _ A12.out).mono ?_); rintro e w20 ⟨rfl, hb⟩; refine ⟨_, rfl, ?_⟩; have n0_ := Aside0.mk (below_step (by repeat (first | (with_reducible first | exact HB.out | apply below_alloc | apply pw_below_drewN | apply below_drew1) | exact HB.out)) hb); clear HB; have HB := n0_; clear n0_; (try clear hb); (try clear hb2); (try clear hk); (try clear hi)) | (go_at_call 40; (with_reducible refine (turn_Then.calls t137 a2 t151 _ A14.out).mono ?_); rintro e w' ⟨rfl, ⟨nd, rfl⟩⟩) | (go_at_call 40; (with_reducible refine (turn_Then.calls a1 a2 t152 _ A15.out).mono ?_); rintro e w' ⟨rfl, ⟨nd, rfl⟩⟩) | (go_at_call 40; (with_reducible refine (turn_Then.calls a0 t152 t153 _ A16.out).mono ?_); rintro e w' ⟨rfl, ⟨nd, rfl⟩⟩))
        go_meet
        case rel => exact ⟨_, ((t151 != t153)), (by first | rfl | (simp; done) | (simp [*]; done)), H', ⟨by first | omega | exact Nat.le_refl _⟩, ⟨by repeat (first | (with_reducible first | exact HB.out | apply below_alloc | apply pw_below_drewN | apply below_drew1) | exact HB.out)⟩⟩
      · rw [if_neg c13] at H
        have c13b0 : (t137 == t150) = false := beq_eq_false_iff_ne.mpr c13
        have c13b1 : (t137 != t150) = true := bne_iff_ne.mpr c13
        (first | rw [c13b0] | (simp only [i64_w, i32_w]; rw [c13b0]) | skip)
        have H' := Aside0.mk H
        clear H
        go_wp2_with (first | ((with_reducible refine gate_callee (f := 43) rfl ?_); refine goesL_ (some 16) rfl rfl Try.func43 (by kernel_rfl) rfl #[.int .i64 a0] rfl (by (try simp only [List.map_toArray, List.map_cons, List.map_nil]); first | done | rfl | (simp only [List.length_drop, List.length_take]; rfl)) ?_; (with_reducible refine (gatherumref03_Of.calls k a0 t138 t139 t140 t141 _ A9.out).mono ?_); rintro e w21 ⟨rfl, hb⟩; refine ⟨_, rfl, ?_⟩; have n0_ := Aside0.mk (below_step (by repeat (first | (with_reducible first | exact HB.out | apply below_alloc | apply pw_below_drewN | apply below_drew1) | exact HB.out)) hb); clear HB; have HB := n0_; clear n0_; (try clear hb); (try clear hb2); (try clear hk); (try clear hi)) | ((with_reducible refine gate_callee (f := 43) rfl ?_); refine goesL_ (some 18) rfl rfl Try.func43 (by kernel_rfl) rfl #[.int .i64 a1] rfl (by (try simp only [List.map_toArray, List.map_cons, List.map_nil]); first | done | rfl | (simp only [List.length_drop, List.length_take]; rfl)) ?_; (with_reducible refine (gatherumref03_Of.calls k a1 t142 t143 t144 t145 _ A10.out).mono ?_); rintro e w22 ⟨rfl, hb⟩; refine ⟨_, rfl, ?_⟩; have n0_ := Aside0.mk (below_step (by repeat (first | (with_reducible first | exact HB.out | apply below_alloc | apply pw_below_drewN | apply below_drew1) | exact HB.out)) hb); clear HB; have HB := n0_; clear n0_; (try clear hb); (try clear hb2); (try clear hk); (try clear hi)) | ((with_reducible refine gate_callee (f := 42) rfl ?_); refine goesL_ (some 19) rfl rfl Try.func42 (by kernel_rfl) rfl #[.agg #[.int .i64 t138, .int .i64 t139, .int .i64 t140, .int .i64 t141], .agg #[.int .i64 t142, .int .i64 t143, .int .i64 t144, .int .i64 t145]] rfl (by (try simp only [List.map_toArray, List.map_cons, List.map_nil]); first | done | rfl | (simp only [List.length_drop, List.length_take]; rfl)) ?_; (with_reducible refine (gatherumref03_Then.calls t138 t139 t140 t141 t142 t143 t144 t145 t146 t147 t148 t149 _ A11.out).mono ?_); rintro e w23 ⟨rfl, hb⟩; refine ⟨_, rfl, ?_⟩; have n0_ := Aside0.mk (below_step (by repeat (first | (with_reducible first | exact HB.out | apply below_alloc | apply pw_below_drewN | apply below_drew1) | exact HB.out)) hb); clear HB; have HB := n0_; clear n0_; (try clear hb); (try clear hb2); (try clear hk); (try clear hi)) | ((with_reducible refine gate_callee (f := 41) rfl ?_); refine goesL_ (some 20) rfl rfl Try.func41 (by kernel_rfl) rfl #[.agg #[.int .i64 t146, .int .i64 t147, .int .i64 t148, .int .i64 t149]] rfl (by (try simp only [List.map_toArray, List.map_cons, List.map_nil]); first | done | rfl | (simp only [List.length_drop, List.length_take]; rfl)) ?_; (with_reducible refine (gatherumref03_Turn.calls k t146 t147 t148 t149 t150 _ A12.out).mono ?_); rintro e w24 ⟨rfl, hb⟩; refine ⟨_, rfl, ?_⟩; have n0_ := Aside0.mk (below_step (by repeat (first | (with_reducible first | exact HB.out | apply below_alloc | apply pw_below_drewN | apply below_drew1) | exact HB.out)) hb); clear HB; have HB := n0_; clear n0_; (try clear hb); (try clear hb2); (try clear hk); (try clear hi)))
        go_meet
        case rel => exact ⟨_, (true), (by first | rfl | (simp; done) | (simp [*]; done)), H', ⟨by first | omega | exact Nat.le_refl _⟩, ⟨by repeat (first | (with_reducible first | exact HB.out | apply below_alloc | apply pw_below_drewN | apply below_drew1) | exact HB.out)⟩⟩
    case rest =>
      clear HC7
      try clear c1
      try clear c2
      try clear p2
      try clear c4
      try clear c5
      try clear c8
      try clear c13
      try clear c13b0
      try clear c13b1
      obtain ⟨kq, x32_6, rfl, HA, HJ6, HB⟩ := hcut
      cases kq with
      | zero => exact absurd HA.out (by simp [gatherumlaw05_TurnGroup.j0])
      | succ kj6 =>
        have H := HA.out
        clear HA
        simp only [gatherumlaw05_TurnGroup.j0] at H
        by_cases c25 : x32_6 = true
        · subst c25
          have H1 : (some false) = some r := by rw [if_pos rfl] at H; exact H
          clear H
          have H := H1
          clear H1
          obtain rfl := Option.some.inj H
          go_wp2
          go_ret
          exact ⟨by first | rfl | (simp [errW_none, errW_some] <;> rfl) | (simp [*, errW_none, errW_some] <;> rfl), by repeat (first | (with_reducible first | exact HB.out | apply below_alloc | apply pw_below_drewN | apply below_drew1) | exact HB.out)⟩
        · replace c25 := Bool.eq_false_iff.mpr c25
          subst c25
          have H1 : ((turn_Back.f a0).bind fun t154 => (if t154 ≥ 0 then (if t154 ≤ 7 then ((turn_Then.f a0 t154).bind fun t155 => (if t155 = 0 then ((turn_Then.f t154 a0).bind fun t156 => (if t156 = 0 then ((turn_Then.f 0 a0).bind fun t157 => (if t157 = (Go.bits .and .i64 a0 7) then ((turn_Then.f a0 0).bind fun t158 => (some (t158 == (Go.bits .and .i64 a0 7)))) else (some false))) else (some false))) else (some false))) else (some false)) else (some false))) = some r := by rw [if_neg (show ¬ (false = true) by decide)] at H; exact H
          clear H
          have H := H1
          clear H1
          replace H := Option.bind_eq_some_iff.mp H
          obtain ⟨t154, A260, H⟩ := H
          replace H : (if t154 ≥ 0 then (if t154 ≤ 7 then ((turn_Then.f a0 t154).bind fun t155 => (if t155 = 0 then ((turn_Then.f t154 a0).bind fun t156 => (if t156 = 0 then ((turn_Then.f 0 a0).bind fun t157 => (if t157 = (Go.bits .and .i64 a0 7) then ((turn_Then.f a0 0).bind fun t158 => (some (t158 == (Go.bits .and .i64 a0 7)))) else (some false))) else (some false))) else (some false))) else (some false)) else (some false)) = some r := H
          have A26 := Aside0.mk A260
          clear A260
          by_cases c27 : t154 ≥ 0
          · rw [if_pos c27] at H
            have c27b0 : decide (0 ≤ t154) = true := decide_eq_true c27
            clear c27
            by_cases c28 : t154 ≤ 7
            · rw [if_pos c28] at H
              have c28b0 : decide (t154 ≤ 7) = true := decide_eq_true c28
              clear c28
              replace H := Option.bind_eq_some_iff.mp H
              obtain ⟨t155, A290, H⟩ := H
              replace H : (if t155 = 0 then ((turn_Then.f t154 a0).bind fun t156 => (if t156 = 0 then ((turn_Then.f 0 a0).bind fun t157 => (if t157 = (Go.bits .and .i64 a0 7) then ((turn_Then.f a0 0).bind fun t158 => (some (t158 == (Go.bits .and .i64 a0 7)))) else (some false))) else (some false))) else (some false)) = some r := H
              have A29 := Aside0.mk A290
              clear A290
              by_cases c30 : t155 = 0
              · rw [if_pos c30] at H
                have c30b0 : (t155 == 0) = true := beq_iff_eq.mpr c30
                have c30b1 : (t155 != 0) = false := bne_eq_false_iff_eq.mpr c30
                clear c30
                replace H := Option.bind_eq_some_iff.mp H
                obtain ⟨t156, A310, H⟩ := H
                replace H : (if t156 = 0 then ((turn_Then.f 0 a0).bind fun t157 => (if t157 = (Go.bits .and .i64 a0 7) then ((turn_Then.f a0 0).bind fun t158 => (some (t158 == (Go.bits .and .i64 a0 7)))) else (some false))) else (some false)) = some r := H
                have A31 := Aside0.mk A310
                clear A310
                by_cases c32 : t156 = 0
                · rw [if_pos c32] at H
                  have c32b0 : (t156 == 0) = true := beq_iff_eq.mpr c32
                  have c32b1 : (t156 != 0) = false := bne_eq_false_iff_eq.mpr c32
                  clear c32
                  replace H := Option.bind_eq_some_iff.mp H
                  obtain ⟨t157, A330, H⟩ := H
                  replace H : (if t157 = (Go.bits .and .i64 a0 7) then ((turn_Then.f a0 0).bind fun t158 => (some (t158 == (Go.bits .and .i64 a0 7)))) else (some false)) = some r := H
                  have A33 := Aside0.mk A330
                  clear A330
                  by_cases c34 : t157 = (Go.bits .and .i64 a0 7)
                  · rw [if_pos c34] at H
                    have c34b0 : (t157 == (Go.bits .and .i64 a0 7)) = true := beq_iff_eq.mpr c34
                    have c34b1 : (t157 != (Go.bits .and .i64 a0 7)) = false := bne_eq_false_iff_eq.mpr c34
                    clear c34
                    replace H := Option.bind_eq_some_iff.mp H
                    obtain ⟨t158, A350, H⟩ := H
                    replace H : (some (t158 == (Go.bits .and .i64 a0 7))) = some r := H
                    have A35 := Aside0.mk A350
                    clear A350
                    obtain rfl := Option.some.inj H
                    go_wp2_with (first | ((with_reducible refine gate_callee (f := 44) rfl ?_); refine goesL_ (some 34) rfl rfl Try.func44 (by kernel_rfl) rfl #[.int .i64 a0] rfl (by (try simp only [List.map_toArray, List.map_cons, List.map_nil]); first | done | rfl | (simp only [List.length_drop, List.length_take]; rfl)) ?_; (with_reducible refine (turn_Back.calls a0 t154 _ A26.out).mono ?_); rintro e w' ⟨rfl, ⟨nd, rfl⟩⟩; refine ⟨_, rfl, ?_⟩) | (go_at_call 40; (with_reducible refine (turn_Then.calls a0 t154 t155 _ A29.out).mono ?_); rintro e w' ⟨rfl, ⟨nd, rfl⟩⟩) | (go_at_call 40; (with_reducible refine (turn_Then.calls t154 a0 t156 _ A31.out).mono ?_); rintro e w' ⟨rfl, ⟨nd, rfl⟩⟩) | (go_at_call 40; (with_reducible refine (turn_Then.calls 0 a0 t157 _ A33.out).mono ?_); rintro e w' ⟨rfl, ⟨nd, rfl⟩⟩) | (go_at_call 40; (with_reducible refine (turn_Then.calls a0 0 t158 _ A35.out).mono ?_); rintro e w' ⟨rfl, ⟨nd, rfl⟩⟩))
                    go_ret
                    exact ⟨by first | rfl | (simp [errW_none, errW_some] <;> rfl) | (simp [*, errW_none, errW_some] <;> rfl), by repeat (first | (with_reducible first | exact HB.out | apply below_alloc | apply pw_below_drewN | apply below_drew1) | exact HB.out)⟩
                  · rw [if_neg c34] at H
                    have c34b0 : (t157 == (Go.bits .and .i64 a0 7)) = false := beq_eq_false_iff_ne.mpr c34
                    have c34b1 : (t157 != (Go.bits .and .i64 a0 7)) = true := bne_iff_ne.mpr c34
                    obtain rfl := Option.some.inj H
                    go_wp2_with (first | ((with_reducible refine gate_callee (f := 44) rfl ?_); refine goesL_ (some 34) rfl rfl Try.func44 (by kernel_rfl) rfl #[.int .i64 a0] rfl (by (try simp only [List.map_toArray, List.map_cons, List.map_nil]); first | done | rfl | (simp only [List.length_drop, List.length_take]; rfl)) ?_; (with_reducible refine (turn_Back.calls a0 t154 _ A26.out).mono ?_); rintro e w' ⟨rfl, ⟨nd, rfl⟩⟩; refine ⟨_, rfl, ?_⟩) | (go_at_call 40; (with_reducible refine (turn_Then.calls a0 t154 t155 _ A29.out).mono ?_); rintro e w' ⟨rfl, ⟨nd, rfl⟩⟩) | (go_at_call 40; (with_reducible refine (turn_Then.calls t154 a0 t156 _ A31.out).mono ?_); rintro e w' ⟨rfl, ⟨nd, rfl⟩⟩) | (go_at_call 40; (with_reducible refine (turn_Then.calls 0 a0 t157 _ A33.out).mono ?_); rintro e w' ⟨rfl, ⟨nd, rfl⟩⟩))
                    go_ret
                    exact ⟨by first | rfl | (simp [errW_none, errW_some] <;> rfl) | (simp [*, errW_none, errW_some] <;> rfl), by repeat (first | (with_reducible first | exact HB.out | apply below_alloc | apply pw_below_drewN | apply below_drew1) | exact HB.out)⟩
                · rw [if_neg c32] at H
                  have c32b0 : (t156 == 0) = false := beq_eq_false_iff_ne.mpr c32
                  have c32b1 : (t156 != 0) = true := bne_iff_ne.mpr c32
                  obtain rfl := Option.some.inj H
                  go_wp2_with (first | ((with_reducible refine gate_callee (f := 44) rfl ?_); refine goesL_ (some 34) rfl rfl Try.func44 (by kernel_rfl) rfl #[.int .i64 a0] rfl (by (try simp only [List.map_toArray, List.map_cons, List.map_nil]); first | done | rfl | (simp only [List.length_drop, List.length_take]; rfl)) ?_; (with_reducible refine (turn_Back.calls a0 t154 _ A26.out).mono ?_); rintro e w' ⟨rfl, ⟨nd, rfl⟩⟩; refine ⟨_, rfl, ?_⟩) | (go_at_call 40; (with_reducible refine (turn_Then.calls a0 t154 t155 _ A29.out).mono ?_); rintro e w' ⟨rfl, ⟨nd, rfl⟩⟩) | (go_at_call 40; (with_reducible refine (turn_Then.calls t154 a0 t156 _ A31.out).mono ?_); rintro e w' ⟨rfl, ⟨nd, rfl⟩⟩))
                  go_ret
                  exact ⟨by first | rfl | (simp [errW_none, errW_some] <;> rfl) | (simp [*, errW_none, errW_some] <;> rfl), by repeat (first | (with_reducible first | exact HB.out | apply below_alloc | apply pw_below_drewN | apply below_drew1) | exact HB.out)⟩
              · rw [if_neg c30] at H
                have c30b0 : (t155 == 0) = false := beq_eq_false_iff_ne.mpr c30
                have c30b1 : (t155 != 0) = true := bne_iff_ne.mpr c30
                obtain rfl := Option.some.inj H
                go_wp2_with (first | ((with_reducible refine gate_callee (f := 44) rfl ?_); refine goesL_ (some 34) rfl rfl Try.func44 (by kernel_rfl) rfl #[.int .i64 a0] rfl (by (try simp only [List.map_toArray, List.map_cons, List.map_nil]); first | done | rfl | (simp only [List.length_drop, List.length_take]; rfl)) ?_; (with_reducible refine (turn_Back.calls a0 t154 _ A26.out).mono ?_); rintro e w' ⟨rfl, ⟨nd, rfl⟩⟩; refine ⟨_, rfl, ?_⟩) | (go_at_call 40; (with_reducible refine (turn_Then.calls a0 t154 t155 _ A29.out).mono ?_); rintro e w' ⟨rfl, ⟨nd, rfl⟩⟩))
                go_ret
                exact ⟨by first | rfl | (simp [errW_none, errW_some] <;> rfl) | (simp [*, errW_none, errW_some] <;> rfl), by repeat (first | (with_reducible first | exact HB.out | apply below_alloc | apply pw_below_drewN | apply below_drew1) | exact HB.out)⟩
            · rw [if_neg c28] at H
              have c28b0 : decide (t154 ≤ 7) = false := decide_eq_false c28
              clear c28
              obtain rfl := Option.some.inj H
              go_wp2_with (first | ((with_reducible refine gate_callee (f := 44) rfl ?_); refine goesL_ (some 34) rfl rfl Try.func44 (by kernel_rfl) rfl #[.int .i64 a0] rfl (by (try simp only [List.map_toArray, List.map_cons, List.map_nil]); first | done | rfl | (simp only [List.length_drop, List.length_take]; rfl)) ?_; (with_reducible refine (turn_Back.calls a0 t154 _ A26.out).mono ?_); rintro e w' ⟨rfl, ⟨nd, rfl⟩⟩; refine ⟨_, rfl, ?_⟩))
              go_ret
              exact ⟨by first | rfl | (simp [errW_none, errW_some] <;> rfl) | (simp [*, errW_none, errW_some] <;> rfl), by repeat (first | (with_reducible first | exact HB.out | apply below_alloc | apply pw_below_drewN | apply below_drew1) | exact HB.out)⟩
          · rw [if_neg c27] at H
            have c27b0 : decide (0 ≤ t154) = false := decide_eq_false c27
            clear c27
            obtain rfl := Option.some.inj H
            go_wp2_with (first | ((with_reducible refine gate_callee (f := 44) rfl ?_); refine goesL_ (some 34) rfl rfl Try.func44 (by kernel_rfl) rfl #[.int .i64 a0] rfl (by (try simp only [List.map_toArray, List.map_cons, List.map_nil]); first | done | rfl | (simp only [List.length_drop, List.length_take]; rfl)) ?_; (with_reducible refine (turn_Back.calls a0 t154 _ A26.out).mono ?_); rintro e w' ⟨rfl, ⟨nd, rfl⟩⟩; refine ⟨_, rfl, ?_⟩))
            go_ret
            exact ⟨by first | rfl | (simp [errW_none, errW_some] <;> rfl) | (simp [*, errW_none, errW_some] <;> rfl), by repeat (first | (with_reducible first | exact HB.out | apply below_alloc | apply pw_below_drewN | apply below_drew1) | exact HB.out)⟩
  · replace c5 := Bool.eq_false_iff.mpr c5
    subst c5
    have H1 : (some false) = some r := by rw [if_neg (show ¬ (false = true) by decide)] at H; exact H
    clear H
    have H := H1
    clear H1
    obtain rfl := Option.some.inj H
    go_enter Try.func8, Try.ntmps8
    go_wp2_with (first | ((with_reducible refine gate_callee (f := 25) rfl ?_); refine goesL_ (some 9) rfl rfl Try.func25 (by kernel_rfl) rfl #[] rfl (by (try simp only [List.map_toArray, List.map_cons, List.map_nil]); first | done | rfl | (simp only [List.length_drop, List.length_take]; rfl)) ?_; (with_reducible refine (gatherumlaw05_alive.calls k  false _ A4.out).mono ?_); rintro e w36 ⟨rfl, hb⟩; refine ⟨_, rfl, ?_⟩; have n0_ := Aside0.mk (below_step (by repeat (first | (with_reducible first | exact HB.out | apply below_alloc | apply pw_below_drewN | apply below_drew1) | exact HB.out)) hb); clear HB; have HB := n0_; clear n0_; (try clear hb); (try clear hb2); (try clear hk); (try clear hi)))
    go_ret
    exact ⟨by first | rfl | (simp [errW_none, errW_some] <;> rfl) | (simp [*, errW_none, errW_some] <;> rfl), by repeat (first | (with_reducible first | exact HB.out | apply below_alloc | apply pw_below_drewN | apply below_drew1) | exact HB.out)⟩

/-- THE ONE PURE STATEMENT of gatherumlaw05_TurnGroup: yours. -/
def gatherumlaw05_TurnGroup.Pure : Prop := ∀ (a0 : Int) (a1 : Int) (a2 : Int), (Lit.int .i64 a0).wf = true → (Lit.int .i64 a1).wf = true → (Lit.int .i64 a2).wf = true → ∃ k, gatherumlaw05_TurnGroup.f k a0 a1 a2 = some true
theorem gatherumlaw05_TurnGroup.walk (P : gatherumlaw05_TurnGroup.Pure) (a0 : Int) (a1 : Int) (a2 : Int) (w : World) (w0 : (Lit.int .i64 a0).wf = true) (w1 : (Lit.int .i64 a1).wf = true) (w2 : (Lit.int .i64 a2).wf = true) :
    Calls Try.prog 8 #[.int .i64 a0, .int .i64 a1, .int .i64 a2] w fun e w' => e = .returned (.bool true) ∧ Below w.heap.size w w' := by
  obtain ⟨k, h⟩ := P a0 a1 a2 w0 w1 w2
  refine (gatherumlaw05_TurnGroup.calls k a0 a1 a2 true w h).mono ?_
  rintro e w' ⟨rfl, hd⟩
  exact ⟨rfl, hd⟩

end Go.Proofs.Ytnahjeeochfljaa.PTurnGroup
