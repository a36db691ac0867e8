/- The row of the law PanelTells: for every input it returns true; no condition. -/
import Derived.Test.YthgmjhidigoneaaRows
import Derived.Test.YthgmjhidigoneaaXPanelTells
import Derived.Test.YthgmjhidigoneaaPurePanelTells
import Derived.WalkKit
import Derived.ProofKit
import Derived.OpenShut
import Derived.ShutString
import Derived.ChangeOld
import Derived.Below
import Derived.SizedLaws
import Derived.Carry
import Derived.WideShapes
import Derived.KernelRfl
namespace Go.Proofs.Ythgmjhidigoneaa.panelTells
open Go.ChangeShapes Go.WideShapes Go.ChangeAt Go.RowKit Go.Proofs.Ythgmjhidigoneaa.Sy Go.Proofs.Ythgmjhidigoneaa.XPanelTells Go.Proofs.Ythgmjhidigoneaa.PurePanelTells
open Go.ChangeMaps (open_string shut_string)
set_option linter.unusedVariables false
set_option maxRecDepth 100000
theorem own : ownKnob Try.prog.godebug = none := by kernel_rfl
theorem laidOut : laidOutB Try.prog = true := by kernel_rfl
theorem top29 {H : Type} {enc : TypeId × Value → H} {w : World} {base : Nat} {sp : Nat → Bool} {held : Bool} : Opn enc Try.prog w base sp held 29 (rwP rwS (rwP rwI (rwP (rwP rwI rwI) (rwP rwI (rwP rwI (rwP rwI (rwP rwI (rwP rwI (rwP rwI (rwP rwI (rwP rwI (rwP (rwP rwI (rwP rwI rwO)) (rwP rwO (rwP rwI (rwP rwI (rwP rwI (rwP rwI (rwP rwI (rwP rwI (rwP rwI (rwP rwI (rwP rwI (rwP rwI (rwP rwI (rwP rwI (rwP rwI (rwP rwI (rwP rwI (rwP rwI rwI))))))))))))))))))))))))))))) (fun v => (v.1.size ≤ maxLen ∧ (Lit.int .i64 v.2.1).wf = true ∧ ((Lit.int .i64 v.2.2.1.1).wf = true ∧ (Lit.int .i64 v.2.2.1.2).wf = true) ∧ (Lit.int .i64 v.2.2.2.1).wf = true ∧ (Lit.int .i64 v.2.2.2.2.1).wf = true ∧ (Lit.int .i64 v.2.2.2.2.2.1).wf = true ∧ (Lit.int .i64 v.2.2.2.2.2.2.1).wf = true ∧ (Lit.int .i64 v.2.2.2.2.2.2.2.1).wf = true ∧ (Lit.int .i64 v.2.2.2.2.2.2.2.2.1).wf = true ∧ (Lit.int .i64 v.2.2.2.2.2.2.2.2.2.1).wf = true ∧ (Lit.int .i64 v.2.2.2.2.2.2.2.2.2.2.1).wf = true ∧ ((Lit.int .i64 v.2.2.2.2.2.2.2.2.2.2.2.1.1).wf = true ∧ (Lit.int .i64 v.2.2.2.2.2.2.2.2.2.2.2.1.2.1).wf = true ∧ True) ∧ True ∧ (Lit.int .i64 v.2.2.2.2.2.2.2.2.2.2.2.2.2.1).wf = true ∧ (Lit.int .i64 v.2.2.2.2.2.2.2.2.2.2.2.2.2.2.1).wf = true ∧ (Lit.int .i64 v.2.2.2.2.2.2.2.2.2.2.2.2.2.2.2.1).wf = true ∧ (Lit.int .i64 v.2.2.2.2.2.2.2.2.2.2.2.2.2.2.2.2.1).wf = true ∧ (Lit.int .i64 v.2.2.2.2.2.2.2.2.2.2.2.2.2.2.2.2.2.1).wf = true ∧ (Lit.int .i64 v.2.2.2.2.2.2.2.2.2.2.2.2.2.2.2.2.2.2.1).wf = true ∧ (Lit.int .i64 v.2.2.2.2.2.2.2.2.2.2.2.2.2.2.2.2.2.2.2.1).wf = true ∧ (Lit.int .i64 v.2.2.2.2.2.2.2.2.2.2.2.2.2.2.2.2.2.2.2.2.1).wf = true ∧ (Lit.int .i64 v.2.2.2.2.2.2.2.2.2.2.2.2.2.2.2.2.2.2.2.2.2.1).wf = true ∧ (Lit.int .i64 v.2.2.2.2.2.2.2.2.2.2.2.2.2.2.2.2.2.2.2.2.2.2.1).wf = true ∧ (Lit.int .i64 v.2.2.2.2.2.2.2.2.2.2.2.2.2.2.2.2.2.2.2.2.2.2.2.1).wf = true ∧ (Lit.int .i64 v.2.2.2.2.2.2.2.2.2.2.2.2.2.2.2.2.2.2.2.2.2.2.2.2.1).wf = true ∧ (Lit.int .i64 v.2.2.2.2.2.2.2.2.2.2.2.2.2.2.2.2.2.2.2.2.2.2.2.2.2.1).wf = true ∧ (Lit.int .i64 v.2.2.2.2.2.2.2.2.2.2.2.2.2.2.2.2.2.2.2.2.2.2.2.2.2.2.1).wf = true ∧ (Lit.int .i64 v.2.2.2.2.2.2.2.2.2.2.2.2.2.2.2.2.2.2.2.2.2.2.2.2.2.2.2.1).wf = true ∧ (Lit.int .i64 v.2.2.2.2.2.2.2.2.2.2.2.2.2.2.2.2.2.2.2.2.2.2.2.2.2.2.2.2.1).wf = true ∧ (Lit.int .i64 v.2.2.2.2.2.2.2.2.2.2.2.2.2.2.2.2.2.2.2.2.2.2.2.2.2.2.2.2.2).wf = true)) :=
  (Opn.struct (N := 33) Try.underlying29 (by kernel_rfl) (OpnF.cons 9 1 _ (by rfl) (by rfl) (by rfl) (by kernel_rfl) (Opn.string Try.underlying9) (OpnF.cons 3 1 _ (by rfl) (by rfl) (by rfl) (by kernel_rfl) (Opn.int Try.underlying3) (OpnF.cons 23 2 _ (by rfl) (by rfl) (by rfl) (by kernel_rfl) (Opn.struct (N := 2) Try.underlying23 (by kernel_rfl) (OpnF.cons 3 1 _ (by rfl) (by rfl) (by rfl) (by kernel_rfl) (Opn.int Try.underlying3) (OpnF.last 3 1 _ (by rfl) (by rfl) (by rfl) (by kernel_rfl) (by rfl) (Opn.int Try.underlying3)))) (OpnF.cons 3 1 _ (by rfl) (by rfl) (by rfl) (by kernel_rfl) (Opn.int Try.underlying3) (OpnF.cons 3 1 _ (by rfl) (by rfl) (by rfl) (by kernel_rfl) (Opn.int Try.underlying3) (OpnF.cons 3 1 _ (by rfl) (by rfl) (by rfl) (by kernel_rfl) (Opn.int Try.underlying3) (OpnF.cons 3 1 _ (by rfl) (by rfl) (by rfl) (by kernel_rfl) (Opn.int Try.underlying3) (OpnF.cons 3 1 _ (by rfl) (by rfl) (by rfl) (by kernel_rfl) (Opn.int Try.underlying3) (OpnF.cons 3 1 _ (by rfl) (by rfl) (by rfl) (by kernel_rfl) (Opn.int Try.underlying3) (OpnF.cons 3 1 _ (by rfl) (by rfl) (by rfl) (by kernel_rfl) (Opn.int Try.underlying3) (OpnF.cons 3 1 _ (by rfl) (by rfl) (by rfl) (by kernel_rfl) (Opn.int Try.underlying3) (OpnF.cons 26 3 _ (by rfl) (by rfl) (by rfl) (by kernel_rfl) (Opn.struct (N := 3) Try.underlying26 (by kernel_rfl) (OpnF.cons 3 1 _ (by rfl) (by rfl) (by rfl) (by kernel_rfl) (Opn.int Try.underlying3) (OpnF.cons 3 1 _ (by rfl) (by rfl) (by rfl) (by kernel_rfl) (Opn.int Try.underlying3) (OpnF.last 24 1 _ (by rfl) (by rfl) (by rfl) (by kernel_rfl) (by rfl) (Opn.opaque Try.underlying24))))) (OpnF.cons 27 1 _ (by rfl) (by rfl) (by rfl) (by kernel_rfl) (Opn.opaque Try.underlying27) (OpnF.cons 3 1 _ (by rfl) (by rfl) (by rfl) (by kernel_rfl) (Opn.int Try.underlying3) (OpnF.cons 3 1 _ (by rfl) (by rfl) (by rfl) (by kernel_rfl) (Opn.int Try.underlying3) (OpnF.cons 3 1 _ (by rfl) (by rfl) (by rfl) (by kernel_rfl) (Opn.int Try.underlying3) (OpnF.cons 3 1 _ (by rfl) (by rfl) (by rfl) (by kernel_rfl) (Opn.int Try.underlying3) (OpnF.cons 3 1 _ (by rfl) (by rfl) (by rfl) (by kernel_rfl) (Opn.int Try.underlying3) (OpnF.cons 3 1 _ (by rfl) (by rfl) (by rfl) (by kernel_rfl) (Opn.int Try.underlying3) (OpnF.cons 3 1 _ (by rfl) (by rfl) (by rfl) (by kernel_rfl) (Opn.int Try.underlying3) (OpnF.cons 3 1 _ (by rfl) (by rfl) (by rfl) (by kernel_rfl) (Opn.int Try.underlying3) (OpnF.cons 3 1 _ (by rfl) (by rfl) (by rfl) (by kernel_rfl) (Opn.int Try.underlying3) (OpnF.cons 3 1 _ (by rfl) (by rfl) (by rfl) (by kernel_rfl) (Opn.int Try.underlying3) (OpnF.cons 3 1 _ (by rfl) (by rfl) (by rfl) (by kernel_rfl) (Opn.int Try.underlying3) (OpnF.cons 3 1 _ (by rfl) (by rfl) (by rfl) (by kernel_rfl) (Opn.int Try.underlying3) (OpnF.cons 3 1 _ (by rfl) (by rfl) (by rfl) (by kernel_rfl) (Opn.int Try.underlying3) (OpnF.cons 3 1 _ (by rfl) (by rfl) (by rfl) (by kernel_rfl) (Opn.int Try.underlying3) (OpnF.cons 3 1 _ (by rfl) (by rfl) (by rfl) (by kernel_rfl) (Opn.int Try.underlying3) (OpnF.cons 3 1 _ (by rfl) (by rfl) (by rfl) (by kernel_rfl) (Opn.int Try.underlying3) (OpnF.last 3 1 _ (by rfl) (by rfl) (by rfl) (by kernel_rfl) (by rfl) (Opn.int Try.underlying3))))))))))))))))))))))))))))))))
theorem top26 {H : Type} {enc : TypeId × Value → H} {w : World} {base : Nat} {sp : Nat → Bool} {held : Bool} : Opn enc Try.prog w base sp held 26 (rwP rwI (rwP rwI rwO)) (fun v => ((Lit.int .i64 v.1).wf = true ∧ (Lit.int .i64 v.2.1).wf = true ∧ True)) :=
  (Opn.struct (N := 3) Try.underlying26 (by kernel_rfl) (OpnF.cons 3 1 _ (by rfl) (by rfl) (by rfl) (by kernel_rfl) (Opn.int Try.underlying3) (OpnF.cons 3 1 _ (by rfl) (by rfl) (by rfl) (by kernel_rfl) (Opn.int Try.underlying3) (OpnF.last 24 1 _ (by rfl) (by rfl) (by rfl) (by kernel_rfl) (by rfl) (Opn.opaque Try.underlying24)))))
theorem top3 {H : Type} {enc : TypeId × Value → H} {w : World} {base : Nat} {sp : Nat → Bool} {held : Bool} : Opn enc Try.prog w base sp held 3 rwI (fun v => (Lit.int .i64 v).wf = true) :=
  (Opn.int Try.underlying3)
theorem top44 {H : Type} {enc : TypeId × Value → H} {w : World} {base : Nat} {sp : Nat → Bool} {held : Bool} : Opn enc Try.prog w base sp held 44 (rwP rwI (rwP rwB rwB)) (fun v => ((Lit.int .i64 v.1).wf = true ∧ True ∧ True)) :=
  (Opn.struct (N := 3) Try.underlying44 (by kernel_rfl) (OpnF.cons 3 1 _ (by rfl) (by rfl) (by rfl) (by kernel_rfl) (Opn.int Try.underlying3) (OpnF.cons 4 1 _ (by rfl) (by rfl) (by rfl) (by kernel_rfl) (Opn.bool Try.underlying4) (OpnF.last 4 1 _ (by rfl) (by rfl) (by rfl) (by kernel_rfl) (by rfl) (Opn.bool Try.underlying4)))))
theorem lifted (os : Os) (started : os.Started) (H : Type) (enc : TypeId × Value → H) :
    ReturnsInHanded {} Try.checked os 5 .any (Rows.panelTellsSpec.pre6 enc Try.prog Try.f5 Rows.panelTellsRow.domain false) (Rows.panelTellsSpec.post enc Try.prog Try.f5 false true false false) := by
  refine returnsInHanded_of_change_sized (C := Try.checked) own started (by kernel_rfl) Try.func5
    (ChangeSpec.witness6 (enc := enc) (C := Try.checked) false ⟨#[], #[.agg #[.string ByteArray.empty, .int .i64 0, .int .i64 0, .int .i64 0, .int .i64 0, .int .i64 0, .int .i64 0, .int .i64 0, .int .i64 0, .int .i64 0, .int .i64 0, .int .i64 0, .int .i64 0, .int .i64 0, .slice none 0 0, .slice none 0 0, .int .i64 0, .int .i64 0, .int .i64 0, .int .i64 0, .int .i64 0, .int .i64 0, .int .i64 0, .int .i64 0, .int .i64 0, .int .i64 0, .int .i64 0, .int .i64 0, .int .i64 0, .int .i64 0, .int .i64 0, .int .i64 0, .int .i64 0], .agg #[.int .i64 0, .int .i64 0, .slice none 0 0], .int .i64 0, .int .i64 0, .agg #[.int .i64 0, .bool false, .bool false]], []⟩ 8 (by kernel_rfl) (by kernel_rfl) (by kernel_rfl) (by kernel_rfl)) ?_
  intro W base args ds gs before hval0 hW hcnd hsz0 _
  have hsz : (DataW.weightsEach Try.prog (Try.f5.params.toList ++ Rows.panelTellsSpec.plain.varTypes Try.prog) (ds ++ gs)).all (· ≤ reachBytes) = true := hsz0
  have hval : ∀ (j : Nat) t v, Try.f5.params[j]? = some t → args[j]? = some v → Value.okWide Try.prog W .any base t v := hval0
  have hW' := hW
  obtain ⟨p, q, hA0, hV, rfl, hfz, hnd⟩ := hW
  have hA : DataW.TrodAll enc Try.prog W 0 (fun _ => true) true Try.f5.params.toList args.toList ds p := hA0
  rw [Try.params5] at hA hval hsz
  obtain ⟨v0, vs0, d0, ds0, p0, q0, hargs, rfl, rfl, h0, r0⟩ := trodAll_cons hA
  obtain ⟨v1, vs1, d1, ds1, p1, q1, rfl, rfl, rfl, h1, r1⟩ := trodAll_cons r0
  obtain ⟨v2, vs2, d2, ds2, p2, q2, rfl, rfl, rfl, h2, r2⟩ := trodAll_cons r1
  obtain ⟨v3, vs3, d3, ds3, p3, q3, rfl, rfl, rfl, h3, r3⟩ := trodAll_cons r2
  obtain ⟨v4, vs4, d4, ds4, p4, q4, rfl, rfl, rfl, h4, r4⟩ := trodAll_cons r3
  obtain ⟨rfl, rfl, rfl⟩ := trodAll_nil r4
  obtain rfl : args = #[v0, v1, v2, v3, v4] := by cases args; simp_all
  obtain ⟨rfl, rfl⟩ := trodVars_none hV
  have k0 := h0
  have lt0 : ∀ x ∈ p0, x.block < W.heap.size := by obtain ⟨m, hm⟩ := k0; exact DataW.trod_lt m _ _ _ hm
  obtain ⟨x0, hR0, w0⟩ := (top29 (sp := fun _ => true) (held := true)).agg Try.underlying29 (hval 0 29 v0 rfl rfl) h0
  have k1 := h1
  have lt1 : ∀ x ∈ p1, x.block < W.heap.size := by obtain ⟨m, hm⟩ := k1; exact DataW.trod_lt m _ _ _ hm
  obtain ⟨x1, hR1, w1⟩ := (top26 (sp := fun _ => true) (held := true)).agg Try.underlying26 (hval 1 26 v1 rfl rfl) h1
  have k2 := h2
  have lt2 : ∀ x ∈ p2, x.block < W.heap.size := by obtain ⟨m, hm⟩ := k2; exact DataW.trod_lt m _ _ _ hm
  obtain ⟨m2, hm2⟩ := h2
  obtain ⟨x2, hq2, w2⟩ := (top3 (enc := enc) (w := W) (sp := fun _ => true) (held := true) (base := 0)) m2 _ _ hm2
  obtain ⟨z2, rfl, _⟩ := open_int Try.underlying3 (hval 2 3 v2 rfl rfl) k2
  have hR2 := RepS1.one' (k := .i) hq2 (by first | rfl | exact x2.2 | simp [K4.ok])
  have k3 := h3
  have lt3 : ∀ x ∈ p3, x.block < W.heap.size := by obtain ⟨m, hm⟩ := k3; exact DataW.trod_lt m _ _ _ hm
  obtain ⟨m3, hm3⟩ := h3
  obtain ⟨x3, hq3, w3⟩ := (top3 (enc := enc) (w := W) (sp := fun _ => true) (held := true) (base := 0)) m3 _ _ hm3
  obtain ⟨z3, rfl, _⟩ := open_int Try.underlying3 (hval 3 3 v3 rfl rfl) k3
  have hR3 := RepS1.one' (k := .i) hq3 (by first | rfl | exact x3.2 | simp [K4.ok])
  have k4 := h4
  have lt4 : ∀ x ∈ p4, x.block < W.heap.size := by obtain ⟨m, hm⟩ := k4; exact DataW.trod_lt m _ _ _ hm
  obtain ⟨x4, hR4, w4⟩ := (top44 (sp := fun _ => true) (held := true)).agg Try.underlying44 (hval 4 44 v4 rfl rfl) h4
  clear hA0 hval0 hsz0
  obtain ⟨K, hk⟩ := PurePanelTells.PanelTells (x0.1) (x0.2.1) (x0.2.2.1.1) (x0.2.2.1.2) (x0.2.2.2.1) (x0.2.2.2.2.1) (x0.2.2.2.2.2.1) (x0.2.2.2.2.2.2.1) (x0.2.2.2.2.2.2.2.1) (x0.2.2.2.2.2.2.2.2.1) (x0.2.2.2.2.2.2.2.2.2.1) (x0.2.2.2.2.2.2.2.2.2.2.1) (x0.2.2.2.2.2.2.2.2.2.2.2.1.1) (x0.2.2.2.2.2.2.2.2.2.2.2.1.2.1) (x0.2.2.2.2.2.2.2.2.2.2.2.1.2.2) (x0.2.2.2.2.2.2.2.2.2.2.2.2.1) (x0.2.2.2.2.2.2.2.2.2.2.2.2.2.1) (x0.2.2.2.2.2.2.2.2.2.2.2.2.2.2.1) (x0.2.2.2.2.2.2.2.2.2.2.2.2.2.2.2.1) (x0.2.2.2.2.2.2.2.2.2.2.2.2.2.2.2.2.1) (x0.2.2.2.2.2.2.2.2.2.2.2.2.2.2.2.2.2.1) (x0.2.2.2.2.2.2.2.2.2.2.2.2.2.2.2.2.2.2.1) (x0.2.2.2.2.2.2.2.2.2.2.2.2.2.2.2.2.2.2.2.1) (x0.2.2.2.2.2.2.2.2.2.2.2.2.2.2.2.2.2.2.2.2.1) (x0.2.2.2.2.2.2.2.2.2.2.2.2.2.2.2.2.2.2.2.2.2.1) (x0.2.2.2.2.2.2.2.2.2.2.2.2.2.2.2.2.2.2.2.2.2.2.1) (x0.2.2.2.2.2.2.2.2.2.2.2.2.2.2.2.2.2.2.2.2.2.2.2.1) (x0.2.2.2.2.2.2.2.2.2.2.2.2.2.2.2.2.2.2.2.2.2.2.2.2.1) (x0.2.2.2.2.2.2.2.2.2.2.2.2.2.2.2.2.2.2.2.2.2.2.2.2.2.1) (x0.2.2.2.2.2.2.2.2.2.2.2.2.2.2.2.2.2.2.2.2.2.2.2.2.2.2.1) (x0.2.2.2.2.2.2.2.2.2.2.2.2.2.2.2.2.2.2.2.2.2.2.2.2.2.2.2.1) (x0.2.2.2.2.2.2.2.2.2.2.2.2.2.2.2.2.2.2.2.2.2.2.2.2.2.2.2.2.1) (x0.2.2.2.2.2.2.2.2.2.2.2.2.2.2.2.2.2.2.2.2.2.2.2.2.2.2.2.2.2) (x1.1) (x1.2.1) (x1.2.2) x2 x3 (x4.1) (x4.2.1) (x4.2.2) (w0.1) (w0.2.1) (w0.2.2.1.1) (w0.2.2.1.2) (w0.2.2.2.1) (w0.2.2.2.2.1) (w0.2.2.2.2.2.1) (w0.2.2.2.2.2.2.1) (w0.2.2.2.2.2.2.2.1) (w0.2.2.2.2.2.2.2.2.1) (w0.2.2.2.2.2.2.2.2.2.1) (w0.2.2.2.2.2.2.2.2.2.2.1) (w0.2.2.2.2.2.2.2.2.2.2.2.1.1) (w0.2.2.2.2.2.2.2.2.2.2.2.1.2.1) (w0.2.2.2.2.2.2.2.2.2.2.2.2.2.1) (w0.2.2.2.2.2.2.2.2.2.2.2.2.2.2.1) (w0.2.2.2.2.2.2.2.2.2.2.2.2.2.2.2.1) (w0.2.2.2.2.2.2.2.2.2.2.2.2.2.2.2.2.1) (w0.2.2.2.2.2.2.2.2.2.2.2.2.2.2.2.2.2.1) (w0.2.2.2.2.2.2.2.2.2.2.2.2.2.2.2.2.2.2.1) (w0.2.2.2.2.2.2.2.2.2.2.2.2.2.2.2.2.2.2.2.1) (w0.2.2.2.2.2.2.2.2.2.2.2.2.2.2.2.2.2.2.2.2.1) (w0.2.2.2.2.2.2.2.2.2.2.2.2.2.2.2.2.2.2.2.2.2.1) (w0.2.2.2.2.2.2.2.2.2.2.2.2.2.2.2.2.2.2.2.2.2.2.1) (w0.2.2.2.2.2.2.2.2.2.2.2.2.2.2.2.2.2.2.2.2.2.2.2.1) (w0.2.2.2.2.2.2.2.2.2.2.2.2.2.2.2.2.2.2.2.2.2.2.2.2.1) (w0.2.2.2.2.2.2.2.2.2.2.2.2.2.2.2.2.2.2.2.2.2.2.2.2.2.1) (w0.2.2.2.2.2.2.2.2.2.2.2.2.2.2.2.2.2.2.2.2.2.2.2.2.2.2.1) (w0.2.2.2.2.2.2.2.2.2.2.2.2.2.2.2.2.2.2.2.2.2.2.2.2.2.2.2.1) (w0.2.2.2.2.2.2.2.2.2.2.2.2.2.2.2.2.2.2.2.2.2.2.2.2.2.2.2.2.1) (w0.2.2.2.2.2.2.2.2.2.2.2.2.2.2.2.2.2.2.2.2.2.2.2.2.2.2.2.2.2) (w1.1) (w1.2.1) w2 w3 (w4.1)
  refine (XPanelTells.gatherumlaw20_PanelTells.calls K (x0.1) (x0.2.1) (x0.2.2.1.1) (x0.2.2.1.2) (x0.2.2.2.1) (x0.2.2.2.2.1) (x0.2.2.2.2.2.1) (x0.2.2.2.2.2.2.1) (x0.2.2.2.2.2.2.2.1) (x0.2.2.2.2.2.2.2.2.1) (x0.2.2.2.2.2.2.2.2.2.1) (x0.2.2.2.2.2.2.2.2.2.2.1) (x0.2.2.2.2.2.2.2.2.2.2.2.1.1) (x0.2.2.2.2.2.2.2.2.2.2.2.1.2.1) (x0.2.2.2.2.2.2.2.2.2.2.2.1.2.2) (x0.2.2.2.2.2.2.2.2.2.2.2.2.1) (x0.2.2.2.2.2.2.2.2.2.2.2.2.2.1) (x0.2.2.2.2.2.2.2.2.2.2.2.2.2.2.1) (x0.2.2.2.2.2.2.2.2.2.2.2.2.2.2.2.1) (x0.2.2.2.2.2.2.2.2.2.2.2.2.2.2.2.2.1) (x0.2.2.2.2.2.2.2.2.2.2.2.2.2.2.2.2.2.1) (x0.2.2.2.2.2.2.2.2.2.2.2.2.2.2.2.2.2.2.1) (x0.2.2.2.2.2.2.2.2.2.2.2.2.2.2.2.2.2.2.2.1) (x0.2.2.2.2.2.2.2.2.2.2.2.2.2.2.2.2.2.2.2.2.1) (x0.2.2.2.2.2.2.2.2.2.2.2.2.2.2.2.2.2.2.2.2.2.1) (x0.2.2.2.2.2.2.2.2.2.2.2.2.2.2.2.2.2.2.2.2.2.2.1) (x0.2.2.2.2.2.2.2.2.2.2.2.2.2.2.2.2.2.2.2.2.2.2.2.1) (x0.2.2.2.2.2.2.2.2.2.2.2.2.2.2.2.2.2.2.2.2.2.2.2.2.1) (x0.2.2.2.2.2.2.2.2.2.2.2.2.2.2.2.2.2.2.2.2.2.2.2.2.2.1) (x0.2.2.2.2.2.2.2.2.2.2.2.2.2.2.2.2.2.2.2.2.2.2.2.2.2.2.1) (x0.2.2.2.2.2.2.2.2.2.2.2.2.2.2.2.2.2.2.2.2.2.2.2.2.2.2.2.1) (x0.2.2.2.2.2.2.2.2.2.2.2.2.2.2.2.2.2.2.2.2.2.2.2.2.2.2.2.2.1) (x0.2.2.2.2.2.2.2.2.2.2.2.2.2.2.2.2.2.2.2.2.2.2.2.2.2.2.2.2.2) (x1.1) (x1.2.1) (x1.2.2) x2 x3 (x4.1) (x4.2.1) (x4.2.2) W (fun b => b < W.heap.size) (fun _ h => h) [_, _, _, _, _] (RepArgs.cons hR0 (RepArgs.cons hR1 (RepArgs.cons hR2 (RepArgs.cons hR3 (RepArgs.cons hR4 RepArgs.nil'))))) hk).mono fun e W' ⟨he, bel⟩ => ?_
  subst he
  exact ⟨_, rfl, _, _, _, [], _, [], hW', trodAll_mk1 (shut_bool Try.underlying4 _), (trodAll_cons_mk (Below.trod laidOut (by kernel_rfl) (of_decide_eq_true (by kernel_rfl)) k0 bel lt0) (trodAll_cons_mk (Below.trod laidOut (by kernel_rfl) (of_decide_eq_true (by kernel_rfl)) k1 bel lt1) (trodAll_cons_mk (Below.trod laidOut (by kernel_rfl) (of_decide_eq_true (by kernel_rfl)) k2 bel lt2) (trodAll_cons_mk (Below.trod laidOut (by kernel_rfl) (of_decide_eq_true (by kernel_rfl)) k3 bel lt3) (trodAll_cons_mk (Below.trod laidOut (by kernel_rfl) (of_decide_eq_true (by kernel_rfl)) k4 bel lt4) trodAll_mk0))))), rfl, bel.frame _, fun h => by cases h⟩
theorem over : Rows.panelTellsRow.holds Try.pinned (OpenSpec.ofChange Rows.panelTellsSpec) :=
  OpenClaim.holds_of_wide 5 Try.f5 rfl rfl rfl rfl rfl rfl rfl ⟨rfl, rfl, rfl, rfl, rfl⟩ rfl rfl rfl rfl rfl (by kernel_rfl) Try.func5 (by kernel_rfl)
    (of_decide_eq_true (by kernel_rfl)) (by unfold Func.isWrapper; first | (rw [if_pos (by decide +kernel)]; kernel_rfl) | (rw [if_neg (by decide +kernel)]; exact ⟨rfl, rfl⟩))
    (fun os started H enc _ => lifted os started H enc)
theorem proved : Rows.PanelTellsSaid := over
#print axioms proved
end Go.Proofs.Ythgmjhidigoneaa.panelTells
namespace Go.Proofs.Ythgmjhidigoneaa
/-- The row, under a short name, for the claim. -/
theorem panelTells_holds : Rows.PanelTellsSaid := panelTells.proved
end Go.Proofs.Ythgmjhidigoneaa
