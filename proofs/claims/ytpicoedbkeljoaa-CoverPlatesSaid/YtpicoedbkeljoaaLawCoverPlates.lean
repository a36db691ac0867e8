/- The row of the law CoverPlates: for every input it returns true; no condition. -/
import Derived.Test.YtpicoedbkeljoaaRows
import Derived.Test.YtpicoedbkeljoaaXCoverPlates
import Derived.Test.YtpicoedbkeljoaaPureCoverPlates
import Derived.WalkKit
import Derived.ProofKit
import Derived.OpenShut
import Derived.ShutString
import Derived.ChangeOld
import Derived.Below
import Derived.SizedLaws
import Derived.Carry
import Derived.WideShapes
import Derived.KernelRfl
namespace Go.Proofs.Ytpicoedbkeljoaa.coverPlates
open Go.ChangeShapes Go.WideShapes Go.ChangeAt Go.RowKit Go.Proofs.Ytpicoedbkeljoaa.Sy Go.Proofs.Ytpicoedbkeljoaa.XCoverPlates Go.Proofs.Ytpicoedbkeljoaa.PureCoverPlates
open Go.ChangeMaps (open_string shut_string)
set_option linter.unusedVariables false
set_option maxRecDepth 100000
theorem own : ownKnob Try.prog.godebug = none := by kernel_rfl
theorem laidOut : laidOutB Try.prog = true := by kernel_rfl
theorem opnel70 {H : Type} {enc : TypeId × Value → H} {w : World} {base : Nat} {sp : Nat → Bool} {held : Bool} : Opn enc Try.prog w base sp held 70 rw_iiiiiiiiis ok_iiiiiiiiis := fun n cs x hx => by
  obtain ⟨v, hr, hv⟩ := ((Opn.struct (N := 10) Try.underlying70 (by kernel_rfl) (OpnF.cons 3 1 _ (by rfl) (by rfl) (by rfl) (by kernel_rfl) (Opn.int Try.underlying3) (OpnF.cons 3 1 _ (by rfl) (by rfl) (by rfl) (by kernel_rfl) (Opn.int Try.underlying3) (OpnF.cons 68 3 _ (by rfl) (by rfl) (by rfl) (by kernel_rfl) (Opn.struct (N := 3) Try.underlying68 (by kernel_rfl) (OpnF.cons 3 1 _ (by rfl) (by rfl) (by rfl) (by kernel_rfl) (Opn.int Try.underlying3) (OpnF.cons 3 1 _ (by rfl) (by rfl) (by rfl) (by kernel_rfl) (Opn.int Try.underlying3) (OpnF.last 3 1 _ (by rfl) (by rfl) (by rfl) (by kernel_rfl) (by rfl) (Opn.int Try.underlying3))))) (OpnF.cons 37 4 _ (by rfl) (by rfl) (by rfl) (by kernel_rfl) (Opn.struct (N := 4) Try.underlying37 (by kernel_rfl) (OpnF.cons 3 1 _ (by rfl) (by rfl) (by rfl) (by kernel_rfl) (Opn.int Try.underlying3) (OpnF.cons 3 1 _ (by rfl) (by rfl) (by rfl) (by kernel_rfl) (Opn.int Try.underlying3) (OpnF.cons 3 1 _ (by rfl) (by rfl) (by rfl) (by kernel_rfl) (Opn.int Try.underlying3) (OpnF.last 3 1 _ (by rfl) (by rfl) (by rfl) (by kernel_rfl) (by rfl) (Opn.int Try.underlying3)))))) (OpnF.last 9 1 _ (by rfl) (by rfl) (by rfl) (by kernel_rfl) (by rfl) (Opn.string Try.underlying9))))))) : Opn enc Try.prog w base sp held 70 (rwP rwI (rwP rwI (rwP (rwP rwI (rwP rwI rwI)) (rwP (rwP rwI (rwP rwI (rwP rwI rwI))) rwS)))) (fun v => ((Lit.int .i64 v.1).wf = true ∧ (Lit.int .i64 v.2.1).wf = true ∧ ((Lit.int .i64 v.2.2.1.1).wf = true ∧ (Lit.int .i64 v.2.2.1.2.1).wf = true ∧ (Lit.int .i64 v.2.2.1.2.2).wf = true) ∧ ((Lit.int .i64 v.2.2.2.1.1).wf = true ∧ (Lit.int .i64 v.2.2.2.1.2.1).wf = true ∧ (Lit.int .i64 v.2.2.2.1.2.2.1).wf = true ∧ (Lit.int .i64 v.2.2.2.1.2.2.2).wf = true) ∧ v.2.2.2.2.size ≤ maxLen))) n cs x hx
  exact ⟨(v.1, v.2.1, v.2.2.1.1, v.2.2.1.2.1, v.2.2.1.2.2, v.2.2.2.1.1, v.2.2.2.1.2.1, v.2.2.2.1.2.2.1, v.2.2.2.1.2.2.2, v.2.2.2.2), hr, ⟨hv.1, hv.2.1, hv.2.2.1.1, hv.2.2.1.2.1, hv.2.2.1.2.2, hv.2.2.2.1.1, hv.2.2.2.1.2.1, hv.2.2.2.1.2.2.1, hv.2.2.2.1.2.2.2, hv.2.2.2.2⟩⟩
theorem top62 {H : Type} {enc : TypeId × Value → H} {w : World} {base : Nat} {sp : Nat → Bool} {held : Bool} : Opn enc Try.prog w base sp held 62 (rwP rwI (rwP rwI (rwP rwI (rwP rwI (rwL 70 10 rw_iiiiiiiiis rfl))))) (fun v => ((Lit.int .i64 v.1).wf = true ∧ (Lit.int .i64 v.2.1).wf = true ∧ (Lit.int .i64 v.2.2.1).wf = true ∧ (Lit.int .i64 v.2.2.2.1).wf = true ∧ (v.2.2.2.2.length ≤ maxLen ∧ ∀ x ∈ v.2.2.2.2, ok_iiiiiiiiis x))) :=
  (Opn.struct (N := 5) Try.underlying62 (by kernel_rfl) (OpnF.cons 3 1 _ (by rfl) (by rfl) (by rfl) (by kernel_rfl) (Opn.int Try.underlying3) (OpnF.cons 3 1 _ (by rfl) (by rfl) (by rfl) (by kernel_rfl) (Opn.int Try.underlying3) (OpnF.cons 3 1 _ (by rfl) (by rfl) (by rfl) (by kernel_rfl) (Opn.int Try.underlying3) (OpnF.cons 3 1 _ (by rfl) (by rfl) (by rfl) (by kernel_rfl) (Opn.int Try.underlying3) (OpnF.last 60 1 _ (by rfl) (by rfl) (by rfl) (by kernel_rfl) (by rfl) (Opn.slice (d := rw_iiiiiiiiis) Try.underlying60 rfl (by decide) (by kernel_rfl) opnel70)))))))
theorem lifted (os : Os) (started : os.Started) (H : Type) (enc : TypeId × Value → H) :
    ReturnsInHanded {} Try.checked os 11 .any (Rows.coverPlatesSpec.pre6 enc Try.prog Try.f11 Rows.coverPlatesRow.domain false) (Rows.coverPlatesSpec.post enc Try.prog Try.f11 false true false false) := by
  refine returnsInHanded_of_change_sized (C := Try.checked) own started (by kernel_rfl) Try.func11
    (ChangeSpec.witness6 (enc := enc) (C := Try.checked) false ⟨#[], #[.agg #[.int .i64 0, .int .i64 0, .int .i64 0, .int .i64 0, .slice none 0 0]], []⟩ 8 (by kernel_rfl) (by kernel_rfl) (by kernel_rfl) (by kernel_rfl)) ?_
  intro W base args ds gs before hval0 hW hcnd hsz0 _
  have hsz : (DataW.weightsEach Try.prog (Try.f11.params.toList ++ Rows.coverPlatesSpec.plain.varTypes Try.prog) (ds ++ gs)).all (· ≤ reachBytes) = true := hsz0
  have hval : ∀ (j : Nat) t v, Try.f11.params[j]? = some t → args[j]? = some v → Value.okWide Try.prog W .any base t v := hval0
  have hW' := hW
  obtain ⟨p, q, hA0, hV, rfl, hfz, hnd⟩ := hW
  have hA : DataW.TrodAll enc Try.prog W 0 (fun _ => true) true Try.f11.params.toList args.toList ds p := hA0
  rw [Try.params11] at hA hval hsz
  obtain ⟨v0, vs0, d0, ds0, p0, q0, hargs, rfl, rfl, h0, r0⟩ := trodAll_cons hA
  obtain ⟨rfl, rfl, rfl⟩ := trodAll_nil r0
  obtain rfl : args = #[v0] := by cases args; simp_all
  obtain ⟨rfl, rfl⟩ := trodVars_none hV
  have k0 := h0
  have lt0 : ∀ x ∈ p0, x.block < W.heap.size := by obtain ⟨m, hm⟩ := k0; exact DataW.trod_lt m _ _ _ hm
  obtain ⟨x0, hR0, w0⟩ := (top62 (sp := fun _ => true) (held := true)).agg Try.underlying62 (hval 0 62 v0 rfl rfl) h0
  clear hA0 hval0 hsz0
  obtain ⟨K, hk⟩ := PureCoverPlates.CoverPlates (x0.1) (x0.2.1) (x0.2.2.1) (x0.2.2.2.1) (x0.2.2.2.2) (w0.1) (w0.2.1) (w0.2.2.1) (w0.2.2.2.1) (w0.2.2.2.2)
  refine (XCoverPlates.gatherumlaw49_CoverPlates.calls K (x0.1) (x0.2.1) (x0.2.2.1) (x0.2.2.2.1) (x0.2.2.2.2) W (fun b => b < W.heap.size) (fun _ h => h) [_] (RepArgs.cons hR0 RepArgs.nil') hk).mono fun e W' ⟨he, bel⟩ => ?_
  subst he
  exact ⟨_, rfl, _, _, _, [], _, [], hW', trodAll_mk1 (shut_bool Try.underlying4 _), (trodAll_cons_mk (Below.trod laidOut (by kernel_rfl) (of_decide_eq_true (by kernel_rfl)) k0 bel lt0) trodAll_mk0), rfl, bel.frame _, fun h => by cases h⟩
theorem over : Rows.coverPlatesRow.holds Try.pinned (OpenSpec.ofChange Rows.coverPlatesSpec) :=
  OpenClaim.holds_of_wide 11 Try.f11 rfl rfl rfl rfl rfl rfl rfl ⟨rfl, rfl, rfl, rfl, rfl⟩ rfl rfl rfl rfl rfl (by kernel_rfl) Try.func11 (by kernel_rfl)
    (of_decide_eq_true (by kernel_rfl)) (by unfold Func.isWrapper; first | (rw [if_pos (by decide +kernel)]; kernel_rfl) | (rw [if_neg (by decide +kernel)]; exact ⟨rfl, rfl⟩))
    (fun os started H enc _ => lifted os started H enc)
theorem proved : Rows.CoverPlatesSaid := over
#print axioms proved
end Go.Proofs.Ytpicoedbkeljoaa.coverPlates
namespace Go.Proofs.Ytpicoedbkeljoaa
/-- The row, under a short name, for the claim. -/
theorem coverPlates_holds : Rows.CoverPlatesSaid := coverPlates.proved
end Go.Proofs.Ytpicoedbkeljoaa
