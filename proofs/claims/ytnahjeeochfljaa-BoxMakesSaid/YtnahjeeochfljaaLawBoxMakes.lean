/- The row of the law BoxMakes: for every input it returns true; no condition. -/
import Derived.Test.YtnahjeeochfljaaRows
import Derived.Test.YtnahjeeochfljaaXBoxMakes
import Derived.Test.YtnahjeeochfljaaPureBoxMakes
import Derived.WalkKit
import Derived.ProofKit
import Derived.OpenShut
import Derived.ShutString
import Derived.ChangeOld
import Derived.Below
import Derived.SizedLaws
import Derived.Carry
import Derived.WideShapes
import Derived.KernelRfl
namespace Go.Proofs.Ytnahjeeochfljaa.boxMakes
open Go.ChangeShapes Go.WideShapes Go.ChangeAt Go.RowKit Go.Proofs.Ytnahjeeochfljaa.Sy Go.Proofs.Ytnahjeeochfljaa.XBoxMakes Go.Proofs.Ytnahjeeochfljaa.PureBoxMakes
open Go.ChangeMaps (open_string shut_string)
set_option linter.unusedVariables false
set_option maxRecDepth 100000
theorem own : ownKnob Try.prog.godebug = none := by kernel_rfl
theorem laidOut : laidOutB Try.prog = true := by kernel_rfl
/-- An array's elements, told as a struct's fields. -/
def arrF (e sz n : Nat) : Array Field := ((List.range n).map fun i => (⟨"", e, i * sz, false, "", "", 0⟩ : Field)).toArray
theorem opn_array {H : Type} {enc : TypeId × Value → H} {P : Program} {w : World} {base : Nat} {sp : Nat → Bool} {held : Bool} {α : Type} {T e : TypeId} {n sz N : Nat} {d : Rw α} {ok : α → Prop} (hu : P.underlying T = some (.array n e)) (hc : P.cellsOf e = sz) (hN : P.cellsOf T = N) (h : OpnF enc P w base sp held (arrF e sz n) N 0 0 d ok) : Opn enc P w base sp held T d ok := by
  intro f cs x hx
  obtain ⟨xs, m, rfl, _, hl, hlen, hf⟩ := DataW.trod_array hu hx
  have := h m cs xs (by rw [hl, hN]) (by rw [hlen]; simp [arrF]) (fun j g hg => by
    have hj : j < n := by have := (Array.getElem?_eq_some_iff.1 hg).1; simpa [arrF] using this
    have h2 : g = ⟨"", e, j * sz, false, "", "", 0⟩ := by
      have h2 := (Array.getElem?_eq_some_iff.1 hg).2
      simp [arrF] at h2
      exact h2.symm
    subst h2
    have h3 := hf j hj
    rw [hc] at h3
    show DataW.trod enc P w base sp held m e ((cs.drop (j * sz)).take (P.cellsOf e)) = _
    rw [hc]
    exact h3)
  simpa using this
theorem okWide_arr {P : Program} {w : World} {r : Reach} {base : Nat} {t e : TypeId} {n : Nat} {v : Value} (ht : P.underlying t = some (.array n e)) (h : Value.okWide P w r base t v) : ∃ cs, v = .agg cs ∧ cs.size = P.cellsOf t := by
  simp only [Value.okWide, ht] at h
  obtain ⟨cs, h1, h2, _⟩ := h
  exact ⟨cs, h1, h2⟩
theorem opn_aggA {H : Type} {enc : TypeId × Value → H} {P : Program} {w : World} {base : Nat} {sp : Nat → Bool} {held : Bool} {α : Type} {T e : TypeId} {n : Nat} {d : Rw α} {ok : α → Prop} (h : Opn enc P w base sp held T d ok) {r : Reach} {b0 : Nat} {v : Value} {x : DataW H} {p : List MemPlace} (hs : P.underlying T = some (.array n e))
    (hv : Value.okWide P w r b0 T v) (ht : DataW.Trod enc P w base sp held T v x p) : ∃ a, RepS1 w (fun b => b < w.heap.size) (.agg d.ks) (d.en a) v ∧ ok a := by
  obtain ⟨cs, rfl, _⟩ := okWide_arr hs hv
  obtain ⟨n, hn⟩ := ht
  obtain ⟨a, hK, hok⟩ := h n _ _ hn
  exact ⟨a, ⟨_, rfl, d.hok a, hK⟩, hok⟩
theorem top27 {H : Type} {enc : TypeId × Value → H} {w : World} {base : Nat} {sp : Nat → Bool} {held : Bool} : Opn enc Try.prog w base sp held 27 (rwP rwI (rwP rwI (rwP rwI rwI))) (fun v => ((Lit.int .i64 v.1).wf = true ∧ (Lit.int .i64 v.2.1).wf = true ∧ (Lit.int .i64 v.2.2.1).wf = true ∧ (Lit.int .i64 v.2.2.2).wf = true)) :=
  (Opn.struct (N := 4) Try.underlying27 (by kernel_rfl) (OpnF.cons 3 1 _ (by rfl) (by rfl) (by rfl) (by kernel_rfl) (Opn.int Try.underlying3) (OpnF.cons 3 1 _ (by rfl) (by rfl) (by rfl) (by kernel_rfl) (Opn.int Try.underlying3) (OpnF.cons 3 1 _ (by rfl) (by rfl) (by rfl) (by kernel_rfl) (Opn.int Try.underlying3) (OpnF.last 3 1 _ (by rfl) (by rfl) (by rfl) (by kernel_rfl) (by rfl) (Opn.int Try.underlying3))))))
theorem top44 {H : Type} {enc : TypeId × Value → H} {w : World} {base : Nat} {sp : Nat → Bool} {held : Bool} : Opn enc Try.prog w base sp held 44 (rwP rwI (rwP rwI (rwP rwI rwI))) (fun v => ((Lit.int .i64 v.1).wf = true ∧ (Lit.int .i64 v.2.1).wf = true ∧ (Lit.int .i64 v.2.2.1).wf = true ∧ (Lit.int .i64 v.2.2.2).wf = true)) :=
  (opn_array (n := 4) (sz := 1) (N := 4) Try.underlying44 (by kernel_rfl) (by kernel_rfl) (OpnF.cons 3 1 _ (by rfl) (by rfl) (by rfl) (by kernel_rfl) (Opn.int Try.underlying3) (OpnF.cons 3 1 _ (by rfl) (by rfl) (by rfl) (by kernel_rfl) (Opn.int Try.underlying3) (OpnF.cons 3 1 _ (by rfl) (by rfl) (by rfl) (by kernel_rfl) (Opn.int Try.underlying3) (OpnF.last 3 1 _ (by rfl) (by rfl) (by rfl) (by kernel_rfl) (by rfl) (Opn.int Try.underlying3))))))
theorem lifted (os : Os) (started : os.Started) (H : Type) (enc : TypeId × Value → H) :
    ReturnsInHanded {} Try.checked os 7 .any (Rows.boxMakesSpec.pre6 enc Try.prog Try.f7 Rows.boxMakesRow.domain false) (Rows.boxMakesSpec.post enc Try.prog Try.f7 false true false false) := by
  refine returnsInHanded_of_change_sized (C := Try.checked) own started (by kernel_rfl) Try.func7
    (ChangeSpec.witness6 (enc := enc) (C := Try.checked) false ⟨#[], #[.agg #[.int .i64 0, .int .i64 0, .int .i64 0, .int .i64 0], .agg #[.int .i64 0, .int .i64 0, .int .i64 0, .int .i64 0]], []⟩ 8 (by kernel_rfl) (by kernel_rfl) (by kernel_rfl) (by kernel_rfl)) ?_
  intro W base args ds gs before hval0 hW hcnd hsz0 _
  have hsz : (DataW.weightsEach Try.prog (Try.f7.params.toList ++ Rows.boxMakesSpec.plain.varTypes Try.prog) (ds ++ gs)).all (· ≤ reachBytes) = true := hsz0
  have hval : ∀ (j : Nat) t v, Try.f7.params[j]? = some t → args[j]? = some v → Value.okWide Try.prog W .any base t v := hval0
  have hW' := hW
  obtain ⟨p, q, hA0, hV, rfl, hfz, hnd⟩ := hW
  have hA : DataW.TrodAll enc Try.prog W 0 (fun _ => true) true Try.f7.params.toList args.toList ds p := hA0
  rw [Try.params7] at hA hval hsz
  obtain ⟨v0, vs0, d0, ds0, p0, q0, hargs, rfl, rfl, h0, r0⟩ := trodAll_cons hA
  obtain ⟨v1, vs1, d1, ds1, p1, q1, rfl, rfl, rfl, h1, r1⟩ := trodAll_cons r0
  obtain ⟨rfl, rfl, rfl⟩ := trodAll_nil r1
  obtain rfl : args = #[v0, v1] := by cases args; simp_all
  obtain ⟨rfl, rfl⟩ := trodVars_none hV
  have k0 := h0
  have lt0 : ∀ x ∈ p0, x.block < W.heap.size := by obtain ⟨m, hm⟩ := k0; exact DataW.trod_lt m _ _ _ hm
  obtain ⟨x0, hR0, w0⟩ := (top27 (sp := fun _ => true) (held := true)).agg Try.underlying27 (hval 0 27 v0 rfl rfl) h0
  have k1 := h1
  have lt1 : ∀ x ∈ p1, x.block < W.heap.size := by obtain ⟨m, hm⟩ := k1; exact DataW.trod_lt m _ _ _ hm
  obtain ⟨x1, hR1, w1⟩ := opn_aggA (top44 (sp := fun _ => true) (held := true)) Try.underlying44 (hval 1 44 v1 rfl rfl) h1
  clear hA0 hval0 hsz0
  obtain ⟨K, hk⟩ := PureBoxMakes.BoxMakes (x0.1) (x0.2.1) (x0.2.2.1) (x0.2.2.2) (x1.1) (x1.2.1) (x1.2.2.1) (x1.2.2.2) (w0.1) (w0.2.1) (w0.2.2.1) (w0.2.2.2) (w1.1) (w1.2.1) (w1.2.2.1) (w1.2.2.2)
  refine (XBoxMakes.gatherumlaw04_BoxMakes.calls K (x0.1) (x0.2.1) (x0.2.2.1) (x0.2.2.2) (x1.1) (x1.2.1) (x1.2.2.1) (x1.2.2.2) W (fun b => b < W.heap.size) (fun _ h => h) [_, _] (RepArgs.cons hR0 (RepArgs.cons hR1 RepArgs.nil')) hk).mono fun e W' ⟨he, bel⟩ => ?_
  subst he
  exact ⟨_, rfl, _, _, _, [], _, [], hW', trodAll_mk1 (shut_bool Try.underlying4 _), (trodAll_cons_mk (Below.trod laidOut (by kernel_rfl) (of_decide_eq_true (by kernel_rfl)) k0 bel lt0) (trodAll_cons_mk (Below.trod laidOut (by kernel_rfl) (of_decide_eq_true (by kernel_rfl)) k1 bel lt1) trodAll_mk0)), rfl, bel.frame _, fun h => by cases h⟩
theorem over : Rows.boxMakesRow.holds Try.pinned (OpenSpec.ofChange Rows.boxMakesSpec) :=
  OpenClaim.holds_of_wide 7 Try.f7 rfl rfl rfl rfl rfl rfl rfl ⟨rfl, rfl, rfl, rfl, rfl⟩ rfl rfl rfl rfl rfl (by kernel_rfl) Try.func7 (by kernel_rfl)
    (of_decide_eq_true (by kernel_rfl)) (by unfold Func.isWrapper; first | (rw [if_pos (by decide +kernel)]; kernel_rfl) | (rw [if_neg (by decide +kernel)]; exact ⟨rfl, rfl⟩))
    (fun os started H enc _ => lifted os started H enc)
theorem proved : Rows.BoxMakesSaid := over
#print axioms proved
end Go.Proofs.Ytnahjeeochfljaa.boxMakes
namespace Go.Proofs.Ytnahjeeochfljaa
/-- The row, under a short name, for the claim. -/
theorem boxMakes_holds : Rows.BoxMakesSaid := boxMakes.proved
end Go.Proofs.Ytnahjeeochfljaa
