/- The row of the law LayerKeeps: for every input it returns true; no condition. -/
import Derived.Test.YthgmjhidigoneaaRows
import Derived.Test.YthgmjhidigoneaaPLayerKeepsx16
import Derived.Test.YthgmjhidigoneaaVOpen
import Derived.Test.YthgmjhidigoneaaPureLayerKeeps
import Derived.WalkKit
import Derived.ProofKit
import Derived.OpenShut
import Derived.ShutString
import Derived.ChangeOld
import Derived.Below
import Derived.SizedLaws
import Derived.Carry
import Derived.WideShapes
import Derived.KernelRfl
namespace Go.Proofs.Ythgmjhidigoneaa.layerKeeps
open Go.ChangeShapes Go.WideShapes Go.ChangeAt Go.RowKit Go.Proofs.YthgmjhidigoneaaW.PrintWords Go.Proofs.Ythgmjhidigoneaa.Open Go.Proofs.Ythgmjhidigoneaa.PLayerKeeps Go.Proofs.Ythgmjhidigoneaa.PureLayerKeeps
open Go.ChangeMaps (open_string shut_string)
set_option linter.unusedVariables false
theorem own : ownKnob Try.prog.godebug = none := by kernel_rfl
theorem laidOut : laidOutB Try.prog = true := by kernel_rfl
theorem top55 {H : Type} {enc : TypeId × Value → H} {w : World} {base : Nat} {sp : Nat → Bool} {held : Bool} : Opens enc Try.prog w base sp held 55 (Kd.pair (Kd.pair (Kd.int .i64) (Kd.pair (Kd.int .i64) (Kd.pair (Kd.int .i64) (Kd.int .i64)))) (Kd.pair (Kd.int .i64) (Kd.pair (Kd.int .i64) (Kd.int .i64)))) (fun v => (((Lit.int .i64 v.1.1).wf = true ∧ (Lit.int .i64 v.1.2.1).wf = true ∧ (Lit.int .i64 v.1.2.2.1).wf = true ∧ (Lit.int .i64 v.1.2.2.2).wf = true) ∧ ((Lit.int .i64 v.2.1).wf = true ∧ (Lit.int .i64 v.2.2.1).wf = true ∧ (Lit.int .i64 v.2.2.2).wf = true))) :=
  (Opens.struct (N := 7) Try.underlying55 (by kernel_rfl) (OpensF.cons 37 4 _ (by rfl) (by rfl) (by rfl) (by kernel_rfl) (Opens.struct (N := 4) Try.underlying37 (by kernel_rfl) (OpensF.cons 3 1 _ (by rfl) (by rfl) (by rfl) (by kernel_rfl) (Opens.int Try.underlying3) (OpensF.cons 3 1 _ (by rfl) (by rfl) (by rfl) (by kernel_rfl) (Opens.int Try.underlying3) (OpensF.cons 3 1 _ (by rfl) (by rfl) (by rfl) (by kernel_rfl) (Opens.int Try.underlying3) (OpensF.last 3 1 _ (by rfl) (by rfl) (by rfl) (by kernel_rfl) (by rfl) (Opens.int Try.underlying3)))))) (OpensF.last 32 3 _ (by rfl) (by rfl) (by rfl) (by kernel_rfl) (by rfl) (Opens.struct (N := 3) Try.underlying32 (by kernel_rfl) (OpensF.cons 3 1 _ (by rfl) (by rfl) (by rfl) (by kernel_rfl) (Opens.int Try.underlying3) (OpensF.cons 3 1 _ (by rfl) (by rfl) (by rfl) (by kernel_rfl) (Opens.int Try.underlying3) (OpensF.last 3 1 _ (by rfl) (by rfl) (by rfl) (by kernel_rfl) (by rfl) (Opens.int Try.underlying3))))))))
theorem top37 {H : Type} {enc : TypeId × Value → H} {w : World} {base : Nat} {sp : Nat → Bool} {held : Bool} : Opens enc Try.prog w base sp held 37 (Kd.pair (Kd.int .i64) (Kd.pair (Kd.int .i64) (Kd.pair (Kd.int .i64) (Kd.int .i64)))) (fun v => ((Lit.int .i64 v.1).wf = true ∧ (Lit.int .i64 v.2.1).wf = true ∧ (Lit.int .i64 v.2.2.1).wf = true ∧ (Lit.int .i64 v.2.2.2).wf = true)) :=
  (Opens.struct (N := 4) Try.underlying37 (by kernel_rfl) (OpensF.cons 3 1 _ (by rfl) (by rfl) (by rfl) (by kernel_rfl) (Opens.int Try.underlying3) (OpensF.cons 3 1 _ (by rfl) (by rfl) (by rfl) (by kernel_rfl) (Opens.int Try.underlying3) (OpensF.cons 3 1 _ (by rfl) (by rfl) (by rfl) (by kernel_rfl) (Opens.int Try.underlying3) (OpensF.last 3 1 _ (by rfl) (by rfl) (by rfl) (by kernel_rfl) (by rfl) (Opens.int Try.underlying3))))))
set_option maxRecDepth 100000 in
theorem lifted (os : Os) (started : os.Started) (H : Type) (enc : TypeId × Value → H) :
    ReturnsInHanded {} Try.checked os 14 .any (Rows.layerKeepsSpec.pre6 enc Try.prog Try.f14 Rows.layerKeepsRow.domain false) (Rows.layerKeepsSpec.post enc Try.prog Try.f14 false true false false) := by
  refine returnsInHanded_of_change_sized (C := Try.checked) own started (by kernel_rfl) Try.func14
    (ChangeSpec.witness6 (enc := enc) (C := Try.checked) false ⟨#[], #[.agg #[.int .i64 0, .int .i64 0, .int .i64 0, .int .i64 0, .int .i64 0, .int .i64 0, .int .i64 0], .agg #[.int .i64 0, .int .i64 0, .int .i64 0, .int .i64 0]], []⟩ 8 (by kernel_rfl) (by kernel_rfl) (by kernel_rfl) (by kernel_rfl)) ?_
  intro W base args ds gs before hval0 hW hcnd hsz0 _
  have hsz : (DataW.weightsEach Try.prog (Try.f14.params.toList ++ Rows.layerKeepsSpec.plain.varTypes Try.prog) (ds ++ gs)).all (· ≤ reachBytes) = true := hsz0
  have hval : ∀ (j : Nat) t v, Try.f14.params[j]? = some t → args[j]? = some v → Value.okWide Try.prog W .any base t v := hval0
  have hW' := hW
  obtain ⟨p, q, hA0, hV, rfl, hfz, hnd⟩ := hW
  have hA : DataW.TrodAll enc Try.prog W 0 (fun _ => true) true Try.f14.params.toList args.toList ds p := hA0
  rw [Try.params14] at hA hval hsz
  obtain ⟨v0, vs0, d0, ds0, p0, q0, hargs, rfl, rfl, h0, r0⟩ := trodAll_cons hA
  obtain ⟨v1, vs1, d1, ds1, p1, q1, rfl, rfl, rfl, h1, r1⟩ := trodAll_cons r0
  obtain ⟨rfl, rfl, rfl⟩ := trodAll_nil r1
  obtain rfl : args = #[v0, v1] := by cases args; simp_all
  obtain ⟨rfl, rfl⟩ := trodVars_none hV
  have k0 := h0
  have lt0 : ∀ x ∈ p0, x.block < W.heap.size := by obtain ⟨m, hm⟩ := k0; exact DataW.trod_lt m _ _ _ hm
  obtain ⟨x0, cs0_, rfl, hK0, w0⟩ := (top55 (sp := fun _ => true) (held := true)).agg Try.underlying55 (hval 0 55 v0 rfl rfl) h0
  obtain ⟨_, _, rfl, ⟨_, _, rfl, rfl, ⟨_, _, rfl, rfl, ⟨_, _, rfl, rfl, rfl⟩⟩⟩, ⟨_, _, rfl, rfl, ⟨_, _, rfl, rfl, rfl⟩⟩⟩ := hK0
  have k1 := h1
  have lt1 : ∀ x ∈ p1, x.block < W.heap.size := by obtain ⟨m, hm⟩ := k1; exact DataW.trod_lt m _ _ _ hm
  obtain ⟨x1, cs1_, rfl, hK1, w1⟩ := (top37 (sp := fun _ => true) (held := true)).agg Try.underlying37 (hval 1 37 v1 rfl rfl) h1
  obtain ⟨_, _, rfl, rfl, ⟨_, _, rfl, rfl, ⟨_, _, rfl, rfl, rfl⟩⟩⟩ := hK1
  clear hA0 hval0 hsz0
  obtain ⟨k, hk⟩ := PureLayerKeeps.LayerKeeps (x0.1.1) (x0.1.2.1) (x0.1.2.2.1) (x0.1.2.2.2) (x0.2.1) (x0.2.2.1) (x0.2.2.2) (x1.1) (x1.2.1) (x1.2.2.1) (x1.2.2.2) (w0.1.1) (w0.1.2.1) (w0.1.2.2.1) (w0.1.2.2.2) (w0.2.1) (w0.2.2.1) (w0.2.2.2) (w1.1) (w1.2.1) (w1.2.2.1) (w1.2.2.2)
  refine (PLayerKeeps.gatherumlaw38_LayerKeeps.calls k (x0.1.1) (x0.1.2.1) (x0.1.2.2.1) (x0.1.2.2.2) (x0.2.1) (x0.2.2.1) (x0.2.2.2) (x1.1) (x1.2.1) (x1.2.2.1) (x1.2.2.2) true W hk).mono fun e W' ⟨he, bel⟩ => ?_
  subst he
  exact ⟨_, rfl, _, _, _, [], _, [], hW', trodAll_mk1 (shut_bool Try.underlying4 _), (trodAll_cons_mk (Below.trod laidOut (by kernel_rfl) (of_decide_eq_true (by kernel_rfl)) k0 bel lt0) (trodAll_cons_mk (Below.trod laidOut (by kernel_rfl) (of_decide_eq_true (by kernel_rfl)) k1 bel lt1) trodAll_mk0)), rfl, bel.frame _, fun h => by cases h⟩
theorem over : Rows.layerKeepsRow.holds Try.pinned (OpenSpec.ofChange Rows.layerKeepsSpec) :=
  OpenClaim.holds_of_wide 14 Try.f14 rfl rfl rfl rfl rfl rfl rfl ⟨rfl, rfl, rfl, rfl, rfl⟩ rfl rfl rfl rfl rfl (by kernel_rfl) Try.func14 (by kernel_rfl)
    (of_decide_eq_true (by kernel_rfl)) (by unfold Func.isWrapper; first | (rw [if_pos (by decide +kernel)]; kernel_rfl) | (rw [if_neg (by decide +kernel)]; exact ⟨rfl, rfl⟩))
    (fun os started H enc _ => lifted os started H enc)
theorem proved : Rows.LayerKeepsSaid := over
#print axioms proved
end Go.Proofs.Ythgmjhidigoneaa.layerKeeps
namespace Go.Proofs.Ythgmjhidigoneaa
/-- The row, under a short name, for the claim. -/
theorem layerKeeps_holds : Rows.LayerKeepsSaid := layerKeeps.proved
end Go.Proofs.Ythgmjhidigoneaa
