/- The row of the law BoxHulls: for every input it returns true; no condition. -/
import Derived.Test.YtnahjeeochfljaaRows
import Derived.Test.YtnahjeeochfljaaXBoxHulls
import Derived.Test.YtnahjeeochfljaaPureBoxHulls
import Derived.WalkKit
import Derived.ProofKit
import Derived.OpenShut
import Derived.ShutString
import Derived.ChangeOld
import Derived.Below
import Derived.SizedLaws
import Derived.Carry
import Derived.WideShapes
import Derived.KernelRfl
namespace Go.Proofs.Ytnahjeeochfljaa.boxHulls
open Go.ChangeShapes Go.WideShapes Go.ChangeAt Go.RowKit Go.Proofs.Ytnahjeeochfljaa.Sy Go.Proofs.Ytnahjeeochfljaa.XBoxHulls Go.Proofs.Ytnahjeeochfljaa.PureBoxHulls
open Go.ChangeMaps (open_string shut_string)
set_option linter.unusedVariables false
set_option maxRecDepth 100000
theorem own : ownKnob Try.prog.godebug = none := by kernel_rfl
theorem laidOut : laidOutB Try.prog = true := by kernel_rfl
theorem opnel27 {H : Type} {enc : TypeId × Value → H} {w : World} {base : Nat} {sp : Nat → Bool} {held : Bool} : Opn enc Try.prog w base sp held 27 rw_iiii ok_iiii := fun n cs x hx => by
  obtain ⟨v, hr, hv⟩ := ((Opn.struct (N := 4) Try.underlying27 (by kernel_rfl) (OpnF.cons 3 1 _ (by rfl) (by rfl) (by rfl) (by kernel_rfl) (Opn.int Try.underlying3) (OpnF.cons 3 1 _ (by rfl) (by rfl) (by rfl) (by kernel_rfl) (Opn.int Try.underlying3) (OpnF.cons 3 1 _ (by rfl) (by rfl) (by rfl) (by kernel_rfl) (Opn.int Try.underlying3) (OpnF.last 3 1 _ (by rfl) (by rfl) (by rfl) (by kernel_rfl) (by rfl) (Opn.int Try.underlying3)))))) : Opn enc Try.prog w base sp held 27 (rwP rwI (rwP rwI (rwP rwI rwI))) (fun v => ((Lit.int .i64 v.1).wf = true ∧ (Lit.int .i64 v.2.1).wf = true ∧ (Lit.int .i64 v.2.2.1).wf = true ∧ (Lit.int .i64 v.2.2.2).wf = true))) n cs x hx
  exact ⟨(v.1, v.2.1, v.2.2.1, v.2.2.2), hr, ⟨hv.1, hv.2.1, hv.2.2.1, hv.2.2.2⟩⟩
theorem top34 {H : Type} {enc : TypeId × Value → H} {w : World} {base : Nat} {sp : Nat → Bool} {held : Bool} : Opn enc Try.prog w base sp held 34 (rwL 27 4 rw_iiii rfl) (fun v => (v.length ≤ maxLen ∧ ∀ x ∈ v, ok_iiii x)) :=
  (Opn.slice (d := rw_iiii) Try.underlying34 rfl (by decide) (by kernel_rfl) opnel27)
theorem lifted (os : Os) (started : os.Started) (H : Type) (enc : TypeId × Value → H) :
    ReturnsInHanded {} Try.checked os 12 .any (Rows.boxHullsSpec.pre6 enc Try.prog Try.f12 Rows.boxHullsRow.domain false) (Rows.boxHullsSpec.post enc Try.prog Try.f12 false true false false) := by
  refine returnsInHanded_of_change_sized (C := Try.checked) own started (by kernel_rfl) Try.func12
    (ChangeSpec.witness6 (enc := enc) (C := Try.checked) false ⟨#[], #[.slice none 0 0], []⟩ 8 (by kernel_rfl) (by kernel_rfl) (by kernel_rfl) (by kernel_rfl)) ?_
  intro W base args ds gs before hval0 hW hcnd hsz0 _
  have hsz : (DataW.weightsEach Try.prog (Try.f12.params.toList ++ Rows.boxHullsSpec.plain.varTypes Try.prog) (ds ++ gs)).all (· ≤ reachBytes) = true := hsz0
  have hval : ∀ (j : Nat) t v, Try.f12.params[j]? = some t → args[j]? = some v → Value.okWide Try.prog W .any base t v := hval0
  have hW' := hW
  obtain ⟨p, q, hA0, hV, rfl, hfz, hnd⟩ := hW
  have hA : DataW.TrodAll enc Try.prog W 0 (fun _ => true) true Try.f12.params.toList args.toList ds p := hA0
  rw [Try.params12] at hA hval hsz
  obtain ⟨v0, vs0, d0, ds0, p0, q0, hargs, rfl, rfl, h0, r0⟩ := trodAll_cons hA
  obtain ⟨rfl, rfl, rfl⟩ := trodAll_nil r0
  obtain rfl : args = #[v0] := by cases args; simp_all
  obtain ⟨rfl, rfl⟩ := trodVars_none hV
  have k0 := h0
  have lt0 : ∀ x ∈ p0, x.block < W.heap.size := by obtain ⟨m, hm⟩ := k0; exact DataW.trod_lt m _ _ _ hm
  obtain ⟨m0, hm0⟩ := h0
  obtain ⟨x0, hq0, w0⟩ := (top34 (enc := enc) (w := W) (sp := fun _ => true) (held := true) (base := 0)) m0 _ _ hm0
  obtain ⟨A0, len0, c0, rfl⟩ := okWide_slice Try.underlying34 (hval 0 34 v0 rfl rfl)
  have hR0 := RepS1.one' (k := (.l 27 4)) hq0 (by first | rfl | exact x0.2 | simp [K4.ok])
  clear hA0 hval0 hsz0
  obtain ⟨K, hk⟩ := PureBoxHulls.BoxHulls x0 w0
  refine (XBoxHulls.gatherumlaw04_BoxHulls.calls K x0 W (fun b => b < W.heap.size) (fun _ h => h) [_] (RepArgs.cons hR0 RepArgs.nil') hk).mono fun e W' ⟨he, bel⟩ => ?_
  subst he
  exact ⟨_, rfl, _, _, _, [], _, [], hW', trodAll_mk1 (shut_bool Try.underlying4 _), (trodAll_cons_mk (Below.trod laidOut (by kernel_rfl) (of_decide_eq_true (by kernel_rfl)) k0 bel lt0) trodAll_mk0), rfl, bel.frame _, fun h => by cases h⟩
theorem over : Rows.boxHullsRow.holds Try.pinned (OpenSpec.ofChange Rows.boxHullsSpec) :=
  OpenClaim.holds_of_wide 12 Try.f12 rfl rfl rfl rfl rfl rfl rfl ⟨rfl, rfl, rfl, rfl, rfl⟩ rfl rfl rfl rfl rfl (by kernel_rfl) Try.func12 (by kernel_rfl)
    (of_decide_eq_true (by kernel_rfl)) (by unfold Func.isWrapper; first | (rw [if_pos (by decide +kernel)]; kernel_rfl) | (rw [if_neg (by decide +kernel)]; exact ⟨rfl, rfl⟩))
    (fun os started H enc _ => lifted os started H enc)
theorem proved : Rows.BoxHullsSaid := over
#print axioms proved
end Go.Proofs.Ytnahjeeochfljaa.boxHulls
namespace Go.Proofs.Ytnahjeeochfljaa
/-- The row, under a short name, for the claim. -/
theorem boxHulls_holds : Rows.BoxHullsSaid := boxHulls.proved
end Go.Proofs.Ytnahjeeochfljaa
