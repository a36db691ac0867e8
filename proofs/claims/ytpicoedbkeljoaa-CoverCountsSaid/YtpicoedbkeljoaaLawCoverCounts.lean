/- The row of the law CoverCounts: for every input it returns true; no condition. -/
import Derived.Test.YtpicoedbkeljoaaRows
import Derived.Test.YtpicoedbkeljoaaXCoverCounts
import Derived.Test.YtpicoedbkeljoaaPureCoverCounts
import Derived.WalkKit
import Derived.ProofKit
import Derived.OpenShut
import Derived.ShutString
import Derived.ChangeOld
import Derived.Below
import Derived.SizedLaws
import Derived.Carry
import Derived.WideShapes
import Derived.KernelRfl
namespace Go.Proofs.Ytpicoedbkeljoaa.coverCounts
open Go.ChangeShapes Go.WideShapes Go.ChangeAt Go.RowKit Go.Proofs.Ytpicoedbkeljoaa.Sy Go.Proofs.Ytpicoedbkeljoaa.XCoverCounts Go.Proofs.Ytpicoedbkeljoaa.PureCoverCounts
open Go.ChangeMaps (open_string shut_string)
set_option linter.unusedVariables false
set_option maxRecDepth 100000
theorem own : ownKnob Try.prog.godebug = none := by kernel_rfl
theorem laidOut : laidOutB Try.prog = true := by kernel_rfl
theorem opnel37 {H : Type} {enc : TypeId × Value → H} {w : World} {base : Nat} {sp : Nat → Bool} {held : Bool} : Opn enc Try.prog w base sp held 37 rw_iiii ok_iiii := fun n cs x hx => by
  obtain ⟨v, hr, hv⟩ := ((Opn.struct (N := 4) Try.underlying37 (by kernel_rfl) (OpnF.cons 3 1 _ (by rfl) (by rfl) (by rfl) (by kernel_rfl) (Opn.int Try.underlying3) (OpnF.cons 3 1 _ (by rfl) (by rfl) (by rfl) (by kernel_rfl) (Opn.int Try.underlying3) (OpnF.cons 3 1 _ (by rfl) (by rfl) (by rfl) (by kernel_rfl) (Opn.int Try.underlying3) (OpnF.last 3 1 _ (by rfl) (by rfl) (by rfl) (by kernel_rfl) (by rfl) (Opn.int Try.underlying3)))))) : Opn enc Try.prog w base sp held 37 (rwP rwI (rwP rwI (rwP rwI rwI))) (fun v => ((Lit.int .i64 v.1).wf = true ∧ (Lit.int .i64 v.2.1).wf = true ∧ (Lit.int .i64 v.2.2.1).wf = true ∧ (Lit.int .i64 v.2.2.2).wf = true))) n cs x hx
  exact ⟨(v.1, v.2.1, v.2.2.1, v.2.2.2), hr, ⟨hv.1, hv.2.1, hv.2.2.1, hv.2.2.2⟩⟩
theorem top38 {H : Type} {enc : TypeId × Value → H} {w : World} {base : Nat} {sp : Nat → Bool} {held : Bool} : Opn enc Try.prog w base sp held 38 (rwL 37 4 rw_iiii rfl) (fun v => (v.length ≤ maxLen ∧ ∀ x ∈ v, ok_iiii x)) :=
  (Opn.slice (d := rw_iiii) Try.underlying38 rfl (by decide) (by kernel_rfl) opnel37)
theorem top3 {H : Type} {enc : TypeId × Value → H} {w : World} {base : Nat} {sp : Nat → Bool} {held : Bool} : Opn enc Try.prog w base sp held 3 rwI (fun v => (Lit.int .i64 v).wf = true) :=
  (Opn.int Try.underlying3)
theorem lifted (os : Os) (started : os.Started) (H : Type) (enc : TypeId × Value → H) :
    ReturnsInHanded {} Try.checked os 9 .any (Rows.coverCountsSpec.pre6 enc Try.prog Try.f9 Rows.coverCountsRow.domain false) (Rows.coverCountsSpec.post enc Try.prog Try.f9 false true false false) := by
  refine returnsInHanded_of_change_sized (C := Try.checked) own started (by kernel_rfl) Try.func9
    (ChangeSpec.witness6 (enc := enc) (C := Try.checked) false ⟨#[], #[.slice none 0 0, .int .i64 0], []⟩ 8 (by kernel_rfl) (by kernel_rfl) (by kernel_rfl) (by kernel_rfl)) ?_
  intro W base args ds gs before hval0 hW hcnd hsz0 _
  have hsz : (DataW.weightsEach Try.prog (Try.f9.params.toList ++ Rows.coverCountsSpec.plain.varTypes Try.prog) (ds ++ gs)).all (· ≤ reachBytes) = true := hsz0
  have hval : ∀ (j : Nat) t v, Try.f9.params[j]? = some t → args[j]? = some v → Value.okWide Try.prog W .any base t v := hval0
  have hW' := hW
  obtain ⟨p, q, hA0, hV, rfl, hfz, hnd⟩ := hW
  have hA : DataW.TrodAll enc Try.prog W 0 (fun _ => true) true Try.f9.params.toList args.toList ds p := hA0
  rw [Try.params9] at hA hval hsz
  obtain ⟨v0, vs0, d0, ds0, p0, q0, hargs, rfl, rfl, h0, r0⟩ := trodAll_cons hA
  obtain ⟨v1, vs1, d1, ds1, p1, q1, rfl, rfl, rfl, h1, r1⟩ := trodAll_cons r0
  obtain ⟨rfl, rfl, rfl⟩ := trodAll_nil r1
  obtain rfl : args = #[v0, v1] := by cases args; simp_all
  obtain ⟨rfl, rfl⟩ := trodVars_none hV
  have k0 := h0
  have lt0 : ∀ x ∈ p0, x.block < W.heap.size := by obtain ⟨m, hm⟩ := k0; exact DataW.trod_lt m _ _ _ hm
  obtain ⟨m0, hm0⟩ := h0
  obtain ⟨x0, hq0, w0⟩ := (top38 (enc := enc) (w := W) (sp := fun _ => true) (held := true) (base := 0)) m0 _ _ hm0
  obtain ⟨A0, len0, c0, rfl⟩ := okWide_slice Try.underlying38 (hval 0 38 v0 rfl rfl)
  have hR0 := RepS1.one' (k := (.l 37 4)) hq0 (by first | rfl | exact x0.2 | simp [K4.ok])
  have k1 := h1
  have lt1 : ∀ x ∈ p1, x.block < W.heap.size := by obtain ⟨m, hm⟩ := k1; exact DataW.trod_lt m _ _ _ hm
  obtain ⟨m1, hm1⟩ := h1
  obtain ⟨x1, hq1, w1⟩ := (top3 (enc := enc) (w := W) (sp := fun _ => true) (held := true) (base := 0)) m1 _ _ hm1
  obtain ⟨z1, rfl, _⟩ := open_int Try.underlying3 (hval 1 3 v1 rfl rfl) k1
  have hR1 := RepS1.one' (k := .i) hq1 (by first | rfl | exact x1.2 | simp [K4.ok])
  clear hA0 hval0 hsz0
  obtain ⟨K, hk⟩ := PureCoverCounts.CoverCounts x0 x1 w0 w1
  refine (XCoverCounts.gatherumlaw49_CoverCounts.calls K x0 x1 W (fun b => b < W.heap.size) (fun _ h => h) [_, _] (RepArgs.cons hR0 (RepArgs.cons hR1 RepArgs.nil')) hk).mono fun e W' ⟨he, bel⟩ => ?_
  subst he
  exact ⟨_, rfl, _, _, _, [], _, [], hW', trodAll_mk1 (shut_bool Try.underlying4 _), (trodAll_cons_mk (Below.trod laidOut (by kernel_rfl) (of_decide_eq_true (by kernel_rfl)) k0 bel lt0) (trodAll_cons_mk (Below.trod laidOut (by kernel_rfl) (of_decide_eq_true (by kernel_rfl)) k1 bel lt1) trodAll_mk0)), rfl, bel.frame _, fun h => by cases h⟩
theorem over : Rows.coverCountsRow.holds Try.pinned (OpenSpec.ofChange Rows.coverCountsSpec) :=
  OpenClaim.holds_of_wide 9 Try.f9 rfl rfl rfl rfl rfl rfl rfl ⟨rfl, rfl, rfl, rfl, rfl⟩ rfl rfl rfl rfl rfl (by kernel_rfl) Try.func9 (by kernel_rfl)
    (of_decide_eq_true (by kernel_rfl)) (by unfold Func.isWrapper; first | (rw [if_pos (by decide +kernel)]; kernel_rfl) | (rw [if_neg (by decide +kernel)]; exact ⟨rfl, rfl⟩))
    (fun os started H enc _ => lifted os started H enc)
theorem proved : Rows.CoverCountsSaid := over
#print axioms proved
end Go.Proofs.Ytpicoedbkeljoaa.coverCounts
namespace Go.Proofs.Ytpicoedbkeljoaa
/-- The row, under a short name, for the claim. -/
theorem coverCounts_holds : Rows.CoverCountsSaid := coverCounts.proved
end Go.Proofs.Ytpicoedbkeljoaa
