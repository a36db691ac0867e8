/- The row of the law SpanCuts: for every input it returns true; no condition. -/
import Derived.Test.YtpicoedbkeljoaaRows
import Derived.Test.YtpicoedbkeljoaaXSpanCuts
import Derived.Test.YtpicoedbkeljoaaPureSpanCuts
import Derived.WalkKit
import Derived.ProofKit
import Derived.OpenShut
import Derived.ShutString
import Derived.ChangeOld
import Derived.Below
import Derived.SizedLaws
import Derived.Carry
import Derived.WideShapes
import Derived.KernelRfl
namespace Go.Proofs.Ytpicoedbkeljoaa.spanCuts
open Go.ChangeShapes Go.WideShapes Go.ChangeAt Go.RowKit Go.Proofs.Ytpicoedbkeljoaa.Sy Go.Proofs.Ytpicoedbkeljoaa.XSpanCuts Go.Proofs.Ytpicoedbkeljoaa.PureSpanCuts
open Go.ChangeMaps (open_string shut_string)
set_option linter.unusedVariables false
set_option maxRecDepth 100000
theorem own : ownKnob Try.prog.godebug = none := by kernel_rfl
theorem laidOut : laidOutB Try.prog = true := by kernel_rfl
theorem opnel3 {H : Type} {enc : TypeId × Value → H} {w : World} {base : Nat} {sp : Nat → Bool} {held : Bool} : Opn enc Try.prog w base sp held 3 rw_i ok_i := (Opn.int Try.underlying3)
theorem top23 {H : Type} {enc : TypeId × Value → H} {w : World} {base : Nat} {sp : Nat → Bool} {held : Bool} : Opn enc Try.prog w base sp held 23 (rwP rwI rwI) (fun v => ((Lit.int .i64 v.1).wf = true ∧ (Lit.int .i64 v.2).wf = true)) :=
  (Opn.struct (N := 2) Try.underlying23 (by kernel_rfl) (OpnF.cons 3 1 _ (by rfl) (by rfl) (by rfl) (by kernel_rfl) (Opn.int Try.underlying3) (OpnF.last 3 1 _ (by rfl) (by rfl) (by rfl) (by kernel_rfl) (by rfl) (Opn.int Try.underlying3))))
theorem top24 {H : Type} {enc : TypeId × Value → H} {w : World} {base : Nat} {sp : Nat → Bool} {held : Bool} : Opn enc Try.prog w base sp held 24 (rwL 3 1 rw_i rfl) (fun v => (v.length ≤ maxLen ∧ ∀ x ∈ v, ok_i x)) :=
  (Opn.slice (d := rw_i) Try.underlying24 rfl (by decide) (by kernel_rfl) opnel3)
theorem top3 {H : Type} {enc : TypeId × Value → H} {w : World} {base : Nat} {sp : Nat → Bool} {held : Bool} : Opn enc Try.prog w base sp held 3 rwI (fun v => (Lit.int .i64 v).wf = true) :=
  (Opn.int Try.underlying3)
theorem lifted (os : Os) (started : os.Started) (H : Type) (enc : TypeId × Value → H) :
    ReturnsInHanded {} Try.checked os 3 .any (Rows.spanCutsSpec.pre6 enc Try.prog Try.f3 Rows.spanCutsRow.domain false) (Rows.spanCutsSpec.post enc Try.prog Try.f3 false true false false) := by
  refine returnsInHanded_of_change_sized (C := Try.checked) own started (by kernel_rfl) Try.func3
    (ChangeSpec.witness6 (enc := enc) (C := Try.checked) false ⟨#[], #[.agg #[.int .i64 0, .int .i64 0], .slice none 0 0, .int .i64 0], []⟩ 8 (by kernel_rfl) (by kernel_rfl) (by kernel_rfl) (by kernel_rfl)) ?_
  intro W base args ds gs before hval0 hW hcnd hsz0 _
  have hsz : (DataW.weightsEach Try.prog (Try.f3.params.toList ++ Rows.spanCutsSpec.plain.varTypes Try.prog) (ds ++ gs)).all (· ≤ reachBytes) = true := hsz0
  have hval : ∀ (j : Nat) t v, Try.f3.params[j]? = some t → args[j]? = some v → Value.okWide Try.prog W .any base t v := hval0
  have hW' := hW
  obtain ⟨p, q, hA0, hV, rfl, hfz, hnd⟩ := hW
  have hA : DataW.TrodAll enc Try.prog W 0 (fun _ => true) true Try.f3.params.toList args.toList ds p := hA0
  rw [Try.params3] at hA hval hsz
  obtain ⟨v0, vs0, d0, ds0, p0, q0, hargs, rfl, rfl, h0, r0⟩ := trodAll_cons hA
  obtain ⟨v1, vs1, d1, ds1, p1, q1, rfl, rfl, rfl, h1, r1⟩ := trodAll_cons r0
  obtain ⟨v2, vs2, d2, ds2, p2, q2, rfl, rfl, rfl, h2, r2⟩ := trodAll_cons r1
  obtain ⟨rfl, rfl, rfl⟩ := trodAll_nil r2
  obtain rfl : args = #[v0, v1, v2] := by cases args; simp_all
  obtain ⟨rfl, rfl⟩ := trodVars_none hV
  have k0 := h0
  have lt0 : ∀ x ∈ p0, x.block < W.heap.size := by obtain ⟨m, hm⟩ := k0; exact DataW.trod_lt m _ _ _ hm
  obtain ⟨x0, hR0, w0⟩ := (top23 (sp := fun _ => true) (held := true)).agg Try.underlying23 (hval 0 23 v0 rfl rfl) h0
  have k1 := h1
  have lt1 : ∀ x ∈ p1, x.block < W.heap.size := by obtain ⟨m, hm⟩ := k1; exact DataW.trod_lt m _ _ _ hm
  obtain ⟨m1, hm1⟩ := h1
  obtain ⟨x1, hq1, w1⟩ := (top24 (enc := enc) (w := W) (sp := fun _ => true) (held := true) (base := 0)) m1 _ _ hm1
  obtain ⟨A1, len1, c1, rfl⟩ := okWide_slice Try.underlying24 (hval 1 24 v1 rfl rfl)
  have hR1 := RepS1.one' (k := (.l 3 1)) hq1 (by first | rfl | exact x1.2 | simp [K4.ok])
  have k2 := h2
  have lt2 : ∀ x ∈ p2, x.block < W.heap.size := by obtain ⟨m, hm⟩ := k2; exact DataW.trod_lt m _ _ _ hm
  obtain ⟨m2, hm2⟩ := h2
  obtain ⟨x2, hq2, w2⟩ := (top3 (enc := enc) (w := W) (sp := fun _ => true) (held := true) (base := 0)) m2 _ _ hm2
  obtain ⟨z2, rfl, _⟩ := open_int Try.underlying3 (hval 2 3 v2 rfl rfl) k2
  have hR2 := RepS1.one' (k := .i) hq2 (by first | rfl | exact x2.2 | simp [K4.ok])
  clear hA0 hval0 hsz0
  obtain ⟨K, hk⟩ := PureSpanCuts.SpanCuts (x0.1) (x0.2) x1 x2 (w0.1) (w0.2) w1 w2
  refine (XSpanCuts.gatherumlaw03_SpanCuts.calls K (x0.1) (x0.2) x1 x2 W (fun b => b < W.heap.size) (fun _ h => h) [_, _, _] (RepArgs.cons hR0 (RepArgs.cons hR1 (RepArgs.cons hR2 RepArgs.nil'))) hk).mono fun e W' ⟨he, bel⟩ => ?_
  subst he
  exact ⟨_, rfl, _, _, _, [], _, [], hW', trodAll_mk1 (shut_bool Try.underlying4 _), (trodAll_cons_mk (Below.trod laidOut (by kernel_rfl) (of_decide_eq_true (by kernel_rfl)) k0 bel lt0) (trodAll_cons_mk (Below.trod laidOut (by kernel_rfl) (of_decide_eq_true (by kernel_rfl)) k1 bel lt1) (trodAll_cons_mk (Below.trod laidOut (by kernel_rfl) (of_decide_eq_true (by kernel_rfl)) k2 bel lt2) trodAll_mk0))), rfl, bel.frame _, fun h => by cases h⟩
theorem over : Rows.spanCutsRow.holds Try.pinned (OpenSpec.ofChange Rows.spanCutsSpec) :=
  OpenClaim.holds_of_wide 3 Try.f3 rfl rfl rfl rfl rfl rfl rfl ⟨rfl, rfl, rfl, rfl, rfl⟩ rfl rfl rfl rfl rfl (by kernel_rfl) Try.func3 (by kernel_rfl)
    (of_decide_eq_true (by kernel_rfl)) (by unfold Func.isWrapper; first | (rw [if_pos (by decide +kernel)]; kernel_rfl) | (rw [if_neg (by decide +kernel)]; exact ⟨rfl, rfl⟩))
    (fun os started H enc _ => lifted os started H enc)
theorem proved : Rows.SpanCutsSaid := over
#print axioms proved
end Go.Proofs.Ytpicoedbkeljoaa.spanCuts
namespace Go.Proofs.Ytpicoedbkeljoaa
/-- The row, under a short name, for the claim. -/
theorem spanCuts_holds : Rows.SpanCutsSaid := spanCuts.proved
end Go.Proofs.Ytpicoedbkeljoaa
