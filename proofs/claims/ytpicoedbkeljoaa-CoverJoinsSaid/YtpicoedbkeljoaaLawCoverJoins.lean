/- The row of the law CoverJoins: for every input it returns true; no condition. -/
import Derived.Test.YtpicoedbkeljoaaRows
import Derived.Test.YtpicoedbkeljoaaXCoverJoins
import Derived.Test.YtpicoedbkeljoaaPureCoverJoins
import Derived.WalkKit
import Derived.ProofKit
import Derived.OpenShut
import Derived.ShutString
import Derived.ChangeOld
import Derived.Below
import Derived.SizedLaws
import Derived.Carry
import Derived.WideShapes
import Derived.KernelRfl
namespace Go.Proofs.Ytpicoedbkeljoaa.coverJoins
open Go.ChangeShapes Go.WideShapes Go.ChangeAt Go.RowKit Go.Proofs.Ytpicoedbkeljoaa.Sy Go.Proofs.Ytpicoedbkeljoaa.XCoverJoins Go.Proofs.Ytpicoedbkeljoaa.PureCoverJoins
open Go.ChangeMaps (open_string shut_string)
set_option linter.unusedVariables false
set_option maxRecDepth 100000
theorem own : ownKnob Try.prog.godebug = none := by kernel_rfl
theorem laidOut : laidOutB Try.prog = true := by kernel_rfl
theorem top37 {H : Type} {enc : TypeId × Value → H} {w : World} {base : Nat} {sp : Nat → Bool} {held : Bool} : Opn enc Try.prog w base sp held 37 (rwP rwI (rwP rwI (rwP rwI rwI))) (fun v => ((Lit.int .i64 v.1).wf = true ∧ (Lit.int .i64 v.2.1).wf = true ∧ (Lit.int .i64 v.2.2.1).wf = true ∧ (Lit.int .i64 v.2.2.2).wf = true)) :=
  (Opn.struct (N := 4) Try.underlying37 (by kernel_rfl) (OpnF.cons 3 1 _ (by rfl) (by rfl) (by rfl) (by kernel_rfl) (Opn.int Try.underlying3) (OpnF.cons 3 1 _ (by rfl) (by rfl) (by rfl) (by kernel_rfl) (Opn.int Try.underlying3) (OpnF.cons 3 1 _ (by rfl) (by rfl) (by rfl) (by kernel_rfl) (Opn.int Try.underlying3) (OpnF.last 3 1 _ (by rfl) (by rfl) (by rfl) (by kernel_rfl) (by rfl) (Opn.int Try.underlying3))))))
theorem lifted (os : Os) (started : os.Started) (H : Type) (enc : TypeId × Value → H) :
    ReturnsInHanded {} Try.checked os 10 .any (Rows.coverJoinsSpec.pre6 enc Try.prog Try.f10 Rows.coverJoinsRow.domain false) (Rows.coverJoinsSpec.post enc Try.prog Try.f10 false true false false) := by
  refine returnsInHanded_of_change_sized (C := Try.checked) own started (by kernel_rfl) Try.func10
    (ChangeSpec.witness6 (enc := enc) (C := Try.checked) false ⟨#[], #[.agg #[.int .i64 0, .int .i64 0, .int .i64 0, .int .i64 0], .agg #[.int .i64 0, .int .i64 0, .int .i64 0, .int .i64 0], .agg #[.int .i64 0, .int .i64 0, .int .i64 0, .int .i64 0]], []⟩ 8 (by kernel_rfl) (by kernel_rfl) (by kernel_rfl) (by kernel_rfl)) ?_
  intro W base args ds gs before hval0 hW hcnd hsz0 _
  have hsz : (DataW.weightsEach Try.prog (Try.f10.params.toList ++ Rows.coverJoinsSpec.plain.varTypes Try.prog) (ds ++ gs)).all (· ≤ reachBytes) = true := hsz0
  have hval : ∀ (j : Nat) t v, Try.f10.params[j]? = some t → args[j]? = some v → Value.okWide Try.prog W .any base t v := hval0
  have hW' := hW
  obtain ⟨p, q, hA0, hV, rfl, hfz, hnd⟩ := hW
  have hA : DataW.TrodAll enc Try.prog W 0 (fun _ => true) true Try.f10.params.toList args.toList ds p := hA0
  rw [Try.params10] at hA hval hsz
  obtain ⟨v0, vs0, d0, ds0, p0, q0, hargs, rfl, rfl, h0, r0⟩ := trodAll_cons hA
  obtain ⟨v1, vs1, d1, ds1, p1, q1, rfl, rfl, rfl, h1, r1⟩ := trodAll_cons r0
  obtain ⟨v2, vs2, d2, ds2, p2, q2, rfl, rfl, rfl, h2, r2⟩ := trodAll_cons r1
  obtain ⟨rfl, rfl, rfl⟩ := trodAll_nil r2
  obtain rfl : args = #[v0, v1, v2] := by cases args; simp_all
  obtain ⟨rfl, rfl⟩ := trodVars_none hV
  have k0 := h0
  have lt0 : ∀ x ∈ p0, x.block < W.heap.size := by obtain ⟨m, hm⟩ := k0; exact DataW.trod_lt m _ _ _ hm
  obtain ⟨x0, hR0, w0⟩ := (top37 (sp := fun _ => true) (held := true)).agg Try.underlying37 (hval 0 37 v0 rfl rfl) h0
  have k1 := h1
  have lt1 : ∀ x ∈ p1, x.block < W.heap.size := by obtain ⟨m, hm⟩ := k1; exact DataW.trod_lt m _ _ _ hm
  obtain ⟨x1, hR1, w1⟩ := (top37 (sp := fun _ => true) (held := true)).agg Try.underlying37 (hval 1 37 v1 rfl rfl) h1
  have k2 := h2
  have lt2 : ∀ x ∈ p2, x.block < W.heap.size := by obtain ⟨m, hm⟩ := k2; exact DataW.trod_lt m _ _ _ hm
  obtain ⟨x2, hR2, w2⟩ := (top37 (sp := fun _ => true) (held := true)).agg Try.underlying37 (hval 2 37 v2 rfl rfl) h2
  clear hA0 hval0 hsz0
  obtain ⟨K, hk⟩ := PureCoverJoins.CoverJoins (x0.1) (x0.2.1) (x0.2.2.1) (x0.2.2.2) (x1.1) (x1.2.1) (x1.2.2.1) (x1.2.2.2) (x2.1) (x2.2.1) (x2.2.2.1) (x2.2.2.2) (w0.1) (w0.2.1) (w0.2.2.1) (w0.2.2.2) (w1.1) (w1.2.1) (w1.2.2.1) (w1.2.2.2) (w2.1) (w2.2.1) (w2.2.2.1) (w2.2.2.2)
  refine (XCoverJoins.gatherumlaw49_CoverJoins.calls K (x0.1) (x0.2.1) (x0.2.2.1) (x0.2.2.2) (x1.1) (x1.2.1) (x1.2.2.1) (x1.2.2.2) (x2.1) (x2.2.1) (x2.2.2.1) (x2.2.2.2) W (fun b => b < W.heap.size) (fun _ h => h) [_, _, _] (RepArgs.cons hR0 (RepArgs.cons hR1 (RepArgs.cons hR2 RepArgs.nil'))) hk).mono fun e W' ⟨he, bel⟩ => ?_
  subst he
  exact ⟨_, rfl, _, _, _, [], _, [], hW', trodAll_mk1 (shut_bool Try.underlying4 _), (trodAll_cons_mk (Below.trod laidOut (by kernel_rfl) (of_decide_eq_true (by kernel_rfl)) k0 bel lt0) (trodAll_cons_mk (Below.trod laidOut (by kernel_rfl) (of_decide_eq_true (by kernel_rfl)) k1 bel lt1) (trodAll_cons_mk (Below.trod laidOut (by kernel_rfl) (of_decide_eq_true (by kernel_rfl)) k2 bel lt2) trodAll_mk0))), rfl, bel.frame _, fun h => by cases h⟩
theorem over : Rows.coverJoinsRow.holds Try.pinned (OpenSpec.ofChange Rows.coverJoinsSpec) :=
  OpenClaim.holds_of_wide 10 Try.f10 rfl rfl rfl rfl rfl rfl rfl ⟨rfl, rfl, rfl, rfl, rfl⟩ rfl rfl rfl rfl rfl (by kernel_rfl) Try.func10 (by kernel_rfl)
    (of_decide_eq_true (by kernel_rfl)) (by unfold Func.isWrapper; first | (rw [if_pos (by decide +kernel)]; kernel_rfl) | (rw [if_neg (by decide +kernel)]; exact ⟨rfl, rfl⟩))
    (fun os started H enc _ => lifted os started H enc)
theorem proved : Rows.CoverJoinsSaid := over
#print axioms proved
end Go.Proofs.Ytpicoedbkeljoaa.coverJoins
namespace Go.Proofs.Ytpicoedbkeljoaa
/-- The row, under a short name, for the claim. -/
theorem coverJoins_holds : Rows.CoverJoinsSaid := coverJoins.proved
end Go.Proofs.Ytpicoedbkeljoaa
