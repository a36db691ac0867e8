/- The row of the law PlaceGroup: for every input it returns true; no condition. -/
import Derived.Test.YtnahjeeochfljaaRows
import Derived.Test.YtnahjeeochfljaaPPlaceGroupx6
import Derived.Test.YtnahjeeochfljaaOpen
import Derived.Test.YtnahjeeochfljaaPurePlaceGroup
import Derived.WalkKit
import Derived.ProofKit
import Derived.OpenShut
import Derived.ShutString
import Derived.ChangeOld
import Derived.Below
import Derived.SizedLaws
import Derived.Carry
import Derived.WideShapes
import Derived.KernelRfl
namespace Go.Proofs.Ytnahjeeochfljaa.placeGroup
open Go.ChangeShapes Go.WideShapes Go.ChangeAt Go.RowKit Go.Proofs.YtnahjeeochfljaaW.PrintWords Go.Proofs.Ytnahjeeochfljaa.Open Go.Proofs.Ytnahjeeochfljaa.PPlaceGroup Go.Proofs.Ytnahjeeochfljaa.PurePlaceGroup
open Go.ChangeMaps (open_string shut_string)
set_option linter.unusedVariables false
theorem own : ownKnob Try.prog.godebug = none := by kernel_rfl
theorem laidOut : laidOutB Try.prog = true := by kernel_rfl
theorem top23 {H : Type} {enc : TypeId × Value → H} {w : World} {base : Nat} {sp : Nat → Bool} {held : Bool} : Opens enc Try.prog w base sp held 23 (Kd.pair (Kd.int .i64) (Kd.pair (Kd.int .i64) (Kd.int .i64))) (fun v => ((Lit.int .i64 v.1).wf = true ∧ (Lit.int .i64 v.2.1).wf = true ∧ (Lit.int .i64 v.2.2).wf = true)) :=
  (Opens.struct (N := 3) Try.underlying23 (by kernel_rfl) (OpensF.cons 3 1 _ (by rfl) (by rfl) (by rfl) (by kernel_rfl) (Opens.int Try.underlying3) (OpensF.cons 3 1 _ (by rfl) (by rfl) (by rfl) (by kernel_rfl) (Opens.int Try.underlying3) (OpensF.last 3 1 _ (by rfl) (by rfl) (by rfl) (by kernel_rfl) (by rfl) (Opens.int Try.underlying3)))))
theorem top25 {H : Type} {enc : TypeId × Value → H} {w : World} {base : Nat} {sp : Nat → Bool} {held : Bool} : Opens enc Try.prog w base sp held 25 (Kd.pair (Kd.int .i64) (Kd.int .i64)) (fun v => ((Lit.int .i64 v.1).wf = true ∧ (Lit.int .i64 v.2).wf = true)) :=
  (Opens.struct (N := 2) Try.underlying25 (by kernel_rfl) (OpensF.cons 3 1 _ (by rfl) (by rfl) (by rfl) (by kernel_rfl) (Opens.int Try.underlying3) (OpensF.last 3 1 _ (by rfl) (by rfl) (by rfl) (by kernel_rfl) (by rfl) (Opens.int Try.underlying3))))
set_option maxRecDepth 100000 in
theorem lifted (os : Os) (started : os.Started) (H : Type) (enc : TypeId × Value → H) :
    ReturnsInHanded {} Try.checked os 13 .any (Rows.placeGroupSpec.pre6 enc Try.prog Try.f13 Rows.placeGroupRow.domain false) (Rows.placeGroupSpec.post enc Try.prog Try.f13 false true false false) := by
  refine returnsInHanded_of_change_sized (C := Try.checked) own started (by kernel_rfl) Try.func13
    (ChangeSpec.witness6 (enc := enc) (C := Try.checked) false ⟨#[], #[.agg #[.int .i64 0, .int .i64 0, .int .i64 0], .agg #[.int .i64 0, .int .i64 0, .int .i64 0], .agg #[.int .i64 0, .int .i64 0]], []⟩ 8 (by kernel_rfl) (by kernel_rfl) (by kernel_rfl) (by kernel_rfl)) ?_
  intro W base args ds gs before hval0 hW hcnd hsz0 _
  have hsz : (DataW.weightsEach Try.prog (Try.f13.params.toList ++ Rows.placeGroupSpec.plain.varTypes Try.prog) (ds ++ gs)).all (· ≤ reachBytes) = true := hsz0
  have hval : ∀ (j : Nat) t v, Try.f13.params[j]? = some t → args[j]? = some v → Value.okWide Try.prog W .any base t v := hval0
  have hW' := hW
  obtain ⟨p, q, hA0, hV, rfl, hfz, hnd⟩ := hW
  have hA : DataW.TrodAll enc Try.prog W 0 (fun _ => true) true Try.f13.params.toList args.toList ds p := hA0
  rw [Try.params13] at hA hval hsz
  obtain ⟨v0, vs0, d0, ds0, p0, q0, hargs, rfl, rfl, h0, r0⟩ := trodAll_cons hA
  obtain ⟨v1, vs1, d1, ds1, p1, q1, rfl, rfl, rfl, h1, r1⟩ := trodAll_cons r0
  obtain ⟨v2, vs2, d2, ds2, p2, q2, rfl, rfl, rfl, h2, r2⟩ := trodAll_cons r1
  obtain ⟨rfl, rfl, rfl⟩ := trodAll_nil r2
  obtain rfl : args = #[v0, v1, v2] := by cases args; simp_all
  obtain ⟨rfl, rfl⟩ := trodVars_none hV
  have k0 := h0
  have lt0 : ∀ x ∈ p0, x.block < W.heap.size := by obtain ⟨m, hm⟩ := k0; exact DataW.trod_lt m _ _ _ hm
  obtain ⟨x0, cs0_, rfl, hK0, w0⟩ := (top23 (sp := fun _ => true) (held := true)).agg Try.underlying23 (hval 0 23 v0 rfl rfl) h0
  obtain ⟨_, _, rfl, rfl, ⟨_, _, rfl, rfl, rfl⟩⟩ := hK0
  have k1 := h1
  have lt1 : ∀ x ∈ p1, x.block < W.heap.size := by obtain ⟨m, hm⟩ := k1; exact DataW.trod_lt m _ _ _ hm
  obtain ⟨x1, cs1_, rfl, hK1, w1⟩ := (top23 (sp := fun _ => true) (held := true)).agg Try.underlying23 (hval 1 23 v1 rfl rfl) h1
  obtain ⟨_, _, rfl, rfl, ⟨_, _, rfl, rfl, rfl⟩⟩ := hK1
  have k2 := h2
  have lt2 : ∀ x ∈ p2, x.block < W.heap.size := by obtain ⟨m, hm⟩ := k2; exact DataW.trod_lt m _ _ _ hm
  obtain ⟨x2, cs2_, rfl, hK2, w2⟩ := (top25 (sp := fun _ => true) (held := true)).agg Try.underlying25 (hval 2 25 v2 rfl rfl) h2
  obtain ⟨_, _, rfl, rfl, rfl⟩ := hK2
  clear hA0 hval0 hsz0
  obtain ⟨k, hk⟩ := PurePlaceGroup.PlaceGroup (x0.1) (x0.2.1) (x0.2.2) (x1.1) (x1.2.1) (x1.2.2) (x2.1) (x2.2) (w0.1) (w0.2.1) (w0.2.2) (w1.1) (w1.2.1) (w1.2.2) (w2.1) (w2.2)
  refine (PPlaceGroup.gatherumlaw06_PlaceGroup.calls k (x0.1) (x0.2.1) (x0.2.2) (x1.1) (x1.2.1) (x1.2.2) (x2.1) (x2.2) true W hk).mono fun e W' ⟨he, bel⟩ => ?_
  subst he
  exact ⟨_, rfl, _, _, _, [], _, [], hW', trodAll_mk1 (shut_bool Try.underlying4 _), (trodAll_cons_mk (Below.trod laidOut (by kernel_rfl) (of_decide_eq_true (by kernel_rfl)) k0 bel lt0) (trodAll_cons_mk (Below.trod laidOut (by kernel_rfl) (of_decide_eq_true (by kernel_rfl)) k1 bel lt1) (trodAll_cons_mk (Below.trod laidOut (by kernel_rfl) (of_decide_eq_true (by kernel_rfl)) k2 bel lt2) trodAll_mk0))), rfl, bel.frame _, fun h => by cases h⟩
theorem over : Rows.placeGroupRow.holds Try.pinned (OpenSpec.ofChange Rows.placeGroupSpec) :=
  OpenClaim.holds_of_wide 13 Try.f13 rfl rfl rfl rfl rfl rfl rfl ⟨rfl, rfl, rfl, rfl, rfl⟩ rfl rfl rfl rfl rfl (by kernel_rfl) Try.func13 (by kernel_rfl)
    (of_decide_eq_true (by kernel_rfl)) (by unfold Func.isWrapper; first | (rw [if_pos (by decide +kernel)]; kernel_rfl) | (rw [if_neg (by decide +kernel)]; exact ⟨rfl, rfl⟩))
    (fun os started H enc _ => lifted os started H enc)
theorem proved : Rows.PlaceGroupSaid := over
#print axioms proved
end Go.Proofs.Ytnahjeeochfljaa.placeGroup
namespace Go.Proofs.Ytnahjeeochfljaa
/-- The row, under a short name, for the claim. -/
theorem placeGroup_holds : Rows.PlaceGroupSaid := placeGroup.proved
end Go.Proofs.Ytnahjeeochfljaa
