/- The row of the law PlaceMatrix: for every input it returns true; no condition. -/
import Derived.Test.YtnahjeeochfljaaRows
import Derived.Test.YtnahjeeochfljaaXPlaceMatrix
import Derived.Test.YtnahjeeochfljaaPurePlaceMatrix
import Derived.WalkKit
import Derived.ProofKit
import Derived.OpenShut
import Derived.ShutString
import Derived.ChangeOld
import Derived.Below
import Derived.SizedLaws
import Derived.Carry
import Derived.WideShapes
import Derived.KernelRfl
namespace Go.Proofs.Ytnahjeeochfljaa.placeMatrix
open Go.ChangeShapes Go.WideShapes Go.ChangeAt Go.RowKit Go.Proofs.Ytnahjeeochfljaa.Sy Go.Proofs.Ytnahjeeochfljaa.XPlaceMatrix Go.Proofs.Ytnahjeeochfljaa.PurePlaceMatrix
open Go.ChangeMaps (open_string shut_string)
set_option linter.unusedVariables false
set_option maxRecDepth 100000
theorem own : ownKnob Try.prog.godebug = none := by kernel_rfl
theorem laidOut : laidOutB Try.prog = true := by kernel_rfl
/-- An array's elements, told as a struct's fields. -/
def arrF (e sz n : Nat) : Array Field := ((List.range n).map fun i => (⟨"", e, i * sz, false, "", "", 0⟩ : Field)).toArray
theorem opn_array {H : Type} {enc : TypeId × Value → H} {P : Program} {w : World} {base : Nat} {sp : Nat → Bool} {held : Bool} {α : Type} {T e : TypeId} {n sz N : Nat} {d : Rw α} {ok : α → Prop} (hu : P.underlying T = some (.array n e)) (hc : P.cellsOf e = sz) (hN : P.cellsOf T = N) (h : OpnF enc P w base sp held (arrF e sz n) N 0 0 d ok) : Opn enc P w base sp held T d ok := by
  intro f cs x hx
  obtain ⟨xs, m, rfl, _, hl, hlen, hf⟩ := DataW.trod_array hu hx
  have := h m cs xs (by rw [hl, hN]) (by rw [hlen]; simp [arrF]) (fun j g hg => by
    have hj : j < n := by have := (Array.getElem?_eq_some_iff.1 hg).1; simpa [arrF] using this
    have h2 : g = ⟨"", e, j * sz, false, "", "", 0⟩ := by
      have h2 := (Array.getElem?_eq_some_iff.1 hg).2
      simp [arrF] at h2
      exact h2.symm
    subst h2
    have h3 := hf j hj
    rw [hc] at h3
    show DataW.trod enc P w base sp held m e ((cs.drop (j * sz)).take (P.cellsOf e)) = _
    rw [hc]
    exact h3)
  simpa using this
theorem okWide_arr {P : Program} {w : World} {r : Reach} {base : Nat} {t e : TypeId} {n : Nat} {v : Value} (ht : P.underlying t = some (.array n e)) (h : Value.okWide P w r base t v) : ∃ cs, v = .agg cs ∧ cs.size = P.cellsOf t := by
  simp only [Value.okWide, ht] at h
  obtain ⟨cs, h1, h2, _⟩ := h
  exact ⟨cs, h1, h2⟩
theorem opn_aggA {H : Type} {enc : TypeId × Value → H} {P : Program} {w : World} {base : Nat} {sp : Nat → Bool} {held : Bool} {α : Type} {T e : TypeId} {n : Nat} {d : Rw α} {ok : α → Prop} (h : Opn enc P w base sp held T d ok) {r : Reach} {b0 : Nat} {v : Value} {x : DataW H} {p : List MemPlace} (hs : P.underlying T = some (.array n e))
    (hv : Value.okWide P w r b0 T v) (ht : DataW.Trod enc P w base sp held T v x p) : ∃ a, RepS1 w (fun b => b < w.heap.size) (.agg d.ks) (d.en a) v ∧ ok a := by
  obtain ⟨cs, rfl, _⟩ := okWide_arr hs hv
  obtain ⟨n, hn⟩ := ht
  obtain ⟨a, hK, hok⟩ := h n _ _ hn
  exact ⟨a, ⟨_, rfl, d.hok a, hK⟩, hok⟩
theorem top23 {H : Type} {enc : TypeId × Value → H} {w : World} {base : Nat} {sp : Nat → Bool} {held : Bool} : Opn enc Try.prog w base sp held 23 (rwP rwI (rwP rwI rwI)) (fun v => ((Lit.int .i64 v.1).wf = true ∧ (Lit.int .i64 v.2.1).wf = true ∧ (Lit.int .i64 v.2.2).wf = true)) :=
  (Opn.struct (N := 3) Try.underlying23 (by kernel_rfl) (OpnF.cons 3 1 _ (by rfl) (by rfl) (by rfl) (by kernel_rfl) (Opn.int Try.underlying3) (OpnF.cons 3 1 _ (by rfl) (by rfl) (by rfl) (by kernel_rfl) (Opn.int Try.underlying3) (OpnF.last 3 1 _ (by rfl) (by rfl) (by rfl) (by kernel_rfl) (by rfl) (Opn.int Try.underlying3)))))
theorem top59 {H : Type} {enc : TypeId × Value → H} {w : World} {base : Nat} {sp : Nat → Bool} {held : Bool} : Opn enc Try.prog w base sp held 59 (rwP rwI (rwP rwI (rwP rwI (rwP rwI (rwP rwI rwI))))) (fun v => ((Lit.int .i64 v.1).wf = true ∧ (Lit.int .i64 v.2.1).wf = true ∧ (Lit.int .i64 v.2.2.1).wf = true ∧ (Lit.int .i64 v.2.2.2.1).wf = true ∧ (Lit.int .i64 v.2.2.2.2.1).wf = true ∧ (Lit.int .i64 v.2.2.2.2.2).wf = true)) :=
  (opn_array (n := 6) (sz := 1) (N := 6) Try.underlying59 (by kernel_rfl) (by kernel_rfl) (OpnF.cons 3 1 _ (by rfl) (by rfl) (by rfl) (by kernel_rfl) (Opn.int Try.underlying3) (OpnF.cons 3 1 _ (by rfl) (by rfl) (by rfl) (by kernel_rfl) (Opn.int Try.underlying3) (OpnF.cons 3 1 _ (by rfl) (by rfl) (by rfl) (by kernel_rfl) (Opn.int Try.underlying3) (OpnF.cons 3 1 _ (by rfl) (by rfl) (by rfl) (by kernel_rfl) (Opn.int Try.underlying3) (OpnF.cons 3 1 _ (by rfl) (by rfl) (by rfl) (by kernel_rfl) (Opn.int Try.underlying3) (OpnF.last 3 1 _ (by rfl) (by rfl) (by rfl) (by kernel_rfl) (by rfl) (Opn.int Try.underlying3))))))))
theorem top25 {H : Type} {enc : TypeId × Value → H} {w : World} {base : Nat} {sp : Nat → Bool} {held : Bool} : Opn enc Try.prog w base sp held 25 (rwP rwI rwI) (fun v => ((Lit.int .i64 v.1).wf = true ∧ (Lit.int .i64 v.2).wf = true)) :=
  (Opn.struct (N := 2) Try.underlying25 (by kernel_rfl) (OpnF.cons 3 1 _ (by rfl) (by rfl) (by rfl) (by kernel_rfl) (Opn.int Try.underlying3) (OpnF.last 3 1 _ (by rfl) (by rfl) (by rfl) (by kernel_rfl) (by rfl) (Opn.int Try.underlying3))))
theorem lifted (os : Os) (started : os.Started) (H : Type) (enc : TypeId × Value → H) :
    ReturnsInHanded {} Try.checked os 9 .any (Rows.placeMatrixSpec.pre6 enc Try.prog Try.f9 Rows.placeMatrixRow.domain false) (Rows.placeMatrixSpec.post enc Try.prog Try.f9 false true false false) := by
  refine returnsInHanded_of_change_sized (C := Try.checked) own started (by kernel_rfl) Try.func9
    (ChangeSpec.witness6 (enc := enc) (C := Try.checked) false ⟨#[], #[.agg #[.int .i64 0, .int .i64 0, .int .i64 0], .agg #[.int .i64 0, .int .i64 0, .int .i64 0, .int .i64 0, .int .i64 0, .int .i64 0], .agg #[.int .i64 0, .int .i64 0]], []⟩ 8 (by kernel_rfl) (by kernel_rfl) (by kernel_rfl) (by kernel_rfl)) ?_
  intro W base args ds gs before hval0 hW hcnd hsz0 _
  have hsz : (DataW.weightsEach Try.prog (Try.f9.params.toList ++ Rows.placeMatrixSpec.plain.varTypes Try.prog) (ds ++ gs)).all (· ≤ reachBytes) = true := hsz0
  have hval : ∀ (j : Nat) t v, Try.f9.params[j]? = some t → args[j]? = some v → Value.okWide Try.prog W .any base t v := hval0
  have hW' := hW
  obtain ⟨p, q, hA0, hV, rfl, hfz, hnd⟩ := hW
  have hA : DataW.TrodAll enc Try.prog W 0 (fun _ => true) true Try.f9.params.toList args.toList ds p := hA0
  rw [Try.params9] at hA hval hsz
  obtain ⟨v0, vs0, d0, ds0, p0, q0, hargs, rfl, rfl, h0, r0⟩ := trodAll_cons hA
  obtain ⟨v1, vs1, d1, ds1, p1, q1, rfl, rfl, rfl, h1, r1⟩ := trodAll_cons r0
  obtain ⟨v2, vs2, d2, ds2, p2, q2, rfl, rfl, rfl, h2, r2⟩ := trodAll_cons r1
  obtain ⟨rfl, rfl, rfl⟩ := trodAll_nil r2
  obtain rfl : args = #[v0, v1, v2] := by cases args; simp_all
  obtain ⟨rfl, rfl⟩ := trodVars_none hV
  have k0 := h0
  have lt0 : ∀ x ∈ p0, x.block < W.heap.size := by obtain ⟨m, hm⟩ := k0; exact DataW.trod_lt m _ _ _ hm
  obtain ⟨x0, hR0, w0⟩ := (top23 (sp := fun _ => true) (held := true)).agg Try.underlying23 (hval 0 23 v0 rfl rfl) h0
  have k1 := h1
  have lt1 : ∀ x ∈ p1, x.block < W.heap.size := by obtain ⟨m, hm⟩ := k1; exact DataW.trod_lt m _ _ _ hm
  obtain ⟨x1, hR1, w1⟩ := opn_aggA (top59 (sp := fun _ => true) (held := true)) Try.underlying59 (hval 1 59 v1 rfl rfl) h1
  have k2 := h2
  have lt2 : ∀ x ∈ p2, x.block < W.heap.size := by obtain ⟨m, hm⟩ := k2; exact DataW.trod_lt m _ _ _ hm
  obtain ⟨x2, hR2, w2⟩ := (top25 (sp := fun _ => true) (held := true)).agg Try.underlying25 (hval 2 25 v2 rfl rfl) h2
  clear hA0 hval0 hsz0
  obtain ⟨K, hk⟩ := PurePlaceMatrix.PlaceMatrix (x0.1) (x0.2.1) (x0.2.2) (x1.1) (x1.2.1) (x1.2.2.1) (x1.2.2.2.1) (x1.2.2.2.2.1) (x1.2.2.2.2.2) (x2.1) (x2.2) (w0.1) (w0.2.1) (w0.2.2) (w1.1) (w1.2.1) (w1.2.2.1) (w1.2.2.2.1) (w1.2.2.2.2.1) (w1.2.2.2.2.2) (w2.1) (w2.2)
  refine (XPlaceMatrix.gatherumlaw06_PlaceMatrix.calls K (x0.1) (x0.2.1) (x0.2.2) (x1.1) (x1.2.1) (x1.2.2.1) (x1.2.2.2.1) (x1.2.2.2.2.1) (x1.2.2.2.2.2) (x2.1) (x2.2) W (fun b => b < W.heap.size) (fun _ h => h) [_, _, _] (RepArgs.cons hR0 (RepArgs.cons hR1 (RepArgs.cons hR2 RepArgs.nil'))) hk).mono fun e W' ⟨he, bel⟩ => ?_
  subst he
  exact ⟨_, rfl, _, _, _, [], _, [], hW', trodAll_mk1 (shut_bool Try.underlying4 _), (trodAll_cons_mk (Below.trod laidOut (by kernel_rfl) (of_decide_eq_true (by kernel_rfl)) k0 bel lt0) (trodAll_cons_mk (Below.trod laidOut (by kernel_rfl) (of_decide_eq_true (by kernel_rfl)) k1 bel lt1) (trodAll_cons_mk (Below.trod laidOut (by kernel_rfl) (of_decide_eq_true (by kernel_rfl)) k2 bel lt2) trodAll_mk0))), rfl, bel.frame _, fun h => by cases h⟩
theorem over : Rows.placeMatrixRow.holds Try.pinned (OpenSpec.ofChange Rows.placeMatrixSpec) :=
  OpenClaim.holds_of_wide 9 Try.f9 rfl rfl rfl rfl rfl rfl rfl ⟨rfl, rfl, rfl, rfl, rfl⟩ rfl rfl rfl rfl rfl (by kernel_rfl) Try.func9 (by kernel_rfl)
    (of_decide_eq_true (by kernel_rfl)) (by unfold Func.isWrapper; first | (rw [if_pos (by decide +kernel)]; kernel_rfl) | (rw [if_neg (by decide +kernel)]; exact ⟨rfl, rfl⟩))
    (fun os started H enc _ => lifted os started H enc)
theorem proved : Rows.PlaceMatrixSaid := over
#print axioms proved
end Go.Proofs.Ytnahjeeochfljaa.placeMatrix
namespace Go.Proofs.Ytnahjeeochfljaa
/-- The row, under a short name, for the claim. -/
theorem placeMatrix_holds : Rows.PlaceMatrixSaid := placeMatrix.proved
end Go.Proofs.Ytnahjeeochfljaa
