/- The row of the law BoxCorners: for every input it returns true; no condition. -/
import Derived.Test.YtnahjeeochfljaaRows
import Derived.Test.YtnahjeeochfljaaXBoxCorners
import Derived.Test.YtnahjeeochfljaaPureBoxCorners
import Derived.WalkKit
import Derived.ProofKit
import Derived.OpenShut
import Derived.ShutString
import Derived.ChangeOld
import Derived.Below
import Derived.SizedLaws
import Derived.Carry
import Derived.WideShapes
import Derived.KernelRfl
namespace Go.Proofs.Ytnahjeeochfljaa.boxCorners
open Go.ChangeShapes Go.WideShapes Go.ChangeAt Go.RowKit Go.Proofs.Ytnahjeeochfljaa.Sy Go.Proofs.Ytnahjeeochfljaa.XBoxCorners Go.Proofs.Ytnahjeeochfljaa.PureBoxCorners
open Go.ChangeMaps (open_string shut_string)
set_option linter.unusedVariables false
set_option maxRecDepth 100000
theorem own : ownKnob Try.prog.godebug = none := by kernel_rfl
theorem laidOut : laidOutB Try.prog = true := by kernel_rfl
theorem top27 {H : Type} {enc : TypeId × Value → H} {w : World} {base : Nat} {sp : Nat → Bool} {held : Bool} : Opn enc Try.prog w base sp held 27 (rwP rwI (rwP rwI (rwP rwI rwI))) (fun v => ((Lit.int .i64 v.1).wf = true ∧ (Lit.int .i64 v.2.1).wf = true ∧ (Lit.int .i64 v.2.2.1).wf = true ∧ (Lit.int .i64 v.2.2.2).wf = true)) :=
  (Opn.struct (N := 4) Try.underlying27 (by kernel_rfl) (OpnF.cons 3 1 _ (by rfl) (by rfl) (by rfl) (by kernel_rfl) (Opn.int Try.underlying3) (OpnF.cons 3 1 _ (by rfl) (by rfl) (by rfl) (by kernel_rfl) (Opn.int Try.underlying3) (OpnF.cons 3 1 _ (by rfl) (by rfl) (by rfl) (by kernel_rfl) (Opn.int Try.underlying3) (OpnF.last 3 1 _ (by rfl) (by rfl) (by rfl) (by kernel_rfl) (by rfl) (Opn.int Try.underlying3))))))
theorem top3 {H : Type} {enc : TypeId × Value → H} {w : World} {base : Nat} {sp : Nat → Bool} {held : Bool} : Opn enc Try.prog w base sp held 3 rwI (fun v => (Lit.int .i64 v).wf = true) :=
  (Opn.int Try.underlying3)
theorem lifted (os : Os) (started : os.Started) (H : Type) (enc : TypeId × Value → H) :
    ReturnsInHanded {} Try.checked os 10 .any (Rows.boxCornersSpec.pre6 enc Try.prog Try.f10 Rows.boxCornersRow.domain false) (Rows.boxCornersSpec.post enc Try.prog Try.f10 false true false false) := by
  refine returnsInHanded_of_change_sized (C := Try.checked) own started (by kernel_rfl) Try.func10
    (ChangeSpec.witness6 (enc := enc) (C := Try.checked) false ⟨#[], #[.agg #[.int .i64 0, .int .i64 0, .int .i64 0, .int .i64 0], .int .i64 0], []⟩ 8 (by kernel_rfl) (by kernel_rfl) (by kernel_rfl) (by kernel_rfl)) ?_
  intro W base args ds gs before hval0 hW hcnd hsz0 _
  have hsz : (DataW.weightsEach Try.prog (Try.f10.params.toList ++ Rows.boxCornersSpec.plain.varTypes Try.prog) (ds ++ gs)).all (· ≤ reachBytes) = true := hsz0
  have hval : ∀ (j : Nat) t v, Try.f10.params[j]? = some t → args[j]? = some v → Value.okWide Try.prog W .any base t v := hval0
  have hW' := hW
  obtain ⟨p, q, hA0, hV, rfl, hfz, hnd⟩ := hW
  have hA : DataW.TrodAll enc Try.prog W 0 (fun _ => true) true Try.f10.params.toList args.toList ds p := hA0
  rw [Try.params10] at hA hval hsz
  obtain ⟨v0, vs0, d0, ds0, p0, q0, hargs, rfl, rfl, h0, r0⟩ := trodAll_cons hA
  obtain ⟨v1, vs1, d1, ds1, p1, q1, rfl, rfl, rfl, h1, r1⟩ := trodAll_cons r0
  obtain ⟨rfl, rfl, rfl⟩ := trodAll_nil r1
  obtain rfl : args = #[v0, v1] := by cases args; simp_all
  obtain ⟨rfl, rfl⟩ := trodVars_none hV
  have k0 := h0
  have lt0 : ∀ x ∈ p0, x.block < W.heap.size := by obtain ⟨m, hm⟩ := k0; exact DataW.trod_lt m _ _ _ hm
  obtain ⟨x0, hR0, w0⟩ := (top27 (sp := fun _ => true) (held := true)).agg Try.underlying27 (hval 0 27 v0 rfl rfl) h0
  have k1 := h1
  have lt1 : ∀ x ∈ p1, x.block < W.heap.size := by obtain ⟨m, hm⟩ := k1; exact DataW.trod_lt m _ _ _ hm
  obtain ⟨m1, hm1⟩ := h1
  obtain ⟨x1, hq1, w1⟩ := (top3 (enc := enc) (w := W) (sp := fun _ => true) (held := true) (base := 0)) m1 _ _ hm1
  obtain ⟨z1, rfl, _⟩ := open_int Try.underlying3 (hval 1 3 v1 rfl rfl) k1
  have hR1 := RepS1.one' (k := .i) hq1 (by first | rfl | exact x1.2 | simp [K4.ok])
  clear hA0 hval0 hsz0
  obtain ⟨K, hk⟩ := PureBoxCorners.BoxCorners (x0.1) (x0.2.1) (x0.2.2.1) (x0.2.2.2) x1 (w0.1) (w0.2.1) (w0.2.2.1) (w0.2.2.2) w1
  refine (XBoxCorners.gatherumlaw04_BoxCorners.calls K (x0.1) (x0.2.1) (x0.2.2.1) (x0.2.2.2) x1 W (fun b => b < W.heap.size) (fun _ h => h) [_, _] (RepArgs.cons hR0 (RepArgs.cons hR1 RepArgs.nil')) hk).mono fun e W' ⟨he, bel⟩ => ?_
  subst he
  exact ⟨_, rfl, _, _, _, [], _, [], hW', trodAll_mk1 (shut_bool Try.underlying4 _), (trodAll_cons_mk (Below.trod laidOut (by kernel_rfl) (of_decide_eq_true (by kernel_rfl)) k0 bel lt0) (trodAll_cons_mk (Below.trod laidOut (by kernel_rfl) (of_decide_eq_true (by kernel_rfl)) k1 bel lt1) trodAll_mk0)), rfl, bel.frame _, fun h => by cases h⟩
theorem over : Rows.boxCornersRow.holds Try.pinned (OpenSpec.ofChange Rows.boxCornersSpec) :=
  OpenClaim.holds_of_wide 10 Try.f10 rfl rfl rfl rfl rfl rfl rfl ⟨rfl, rfl, rfl, rfl, rfl⟩ rfl rfl rfl rfl rfl (by kernel_rfl) Try.func10 (by kernel_rfl)
    (of_decide_eq_true (by kernel_rfl)) (by unfold Func.isWrapper; first | (rw [if_pos (by decide +kernel)]; kernel_rfl) | (rw [if_neg (by decide +kernel)]; exact ⟨rfl, rfl⟩))
    (fun os started H enc _ => lifted os started H enc)
theorem proved : Rows.BoxCornersSaid := over
#print axioms proved
end Go.Proofs.Ytnahjeeochfljaa.boxCorners
namespace Go.Proofs.Ytnahjeeochfljaa
/-- The row, under a short name, for the claim. -/
theorem boxCorners_holds : Rows.BoxCornersSaid := boxCorners.proved
end Go.Proofs.Ytnahjeeochfljaa
