/- Arguments, opened: out of the reading of a struct or a slice, the values that the printed functions want. -/
import Derived.Test.YthgmjhidigoneaaVWords
import Derived.OpenShut
import Derived.ChangeArms
import Derived.WideShapes
import Derived.DataReads
namespace Go.Proofs.Ythgmjhidigoneaa.Open
open Go Go.RowKit Go.Proofs.YthgmjhidigoneaaW.PrintWords
set_option linter.unusedVariables false
/-! ### an argument, opened: out of its reading, its value as the printed functions want it -/
section
variable {H : Type} {enc : TypeId × Value → H} {P : Program} {w : World} {base : Nat} {sp : Nat → Bool} {held : Bool}
/-- Whatever reads as type T is told by d, and ok holds of it. -/
def Opens {α : Type} (enc : TypeId × Value → H) (P : Program) (w : World) (base : Nat) (sp : Nat → Bool) (held : Bool) (T : TypeId) (d : Kd α) (ok : α → Prop) : Prop :=
  ∀ (n : Nat) (cs : List Value) (x : DataW H × List MemPlace), DataW.trod enc P w base sp held n T cs = some x → ∃ v, d.K w v cs ∧ ok v
theorem Opens.int {T : TypeId} {k : IntKind} (hu : P.underlying T = some (.int k)) : Opens enc P w base sp held T (Kd.int k) (fun a => (Lit.int k a).wf = true) := by
  intro n cs x h
  obtain ⟨a, rfl, _, hw⟩ := DataW.trod_int hu h
  exact ⟨a, rfl, hw⟩
theorem Opens.bool {T : TypeId} (hu : P.underlying T = some .bool) : Opens enc P w base sp held T Kd.bool (fun _ => True) := by
  intro n cs x h
  obtain ⟨a, rfl, _⟩ := DataW.trod_bool hu h
  exact ⟨a, rfl, trivial⟩
theorem Opens.string {T : TypeId} (hu : P.underlying T = some .string) : Opens enc P w base sp held T Kd.string (fun a => a.size ≤ maxLen) := by
  intro n cs x h
  obtain ⟨a, rfl, _, hw⟩ := DataW.trod_string hu h
  exact ⟨a, rfl, hw⟩
theorem addr_add_add (a : Addr) (m n : Nat) : (a.add m).add n = a.add (m + n) := by
  unfold Addr.add
  by_cases h : m = 0
  · subst h; simp
  · by_cases h' : n = 0
    · subst h'; simp [h]
    · have : ¬ (m + n = 0) := by omega
      simp [h, h', Nat.add_assoc]
theorem list_of_ex {α β : Type} (p : Nat → α → Prop) : ∀ (n : Nat), (∀ i, i < n → ∃ v, p i v) → ∃ l : List α, l.length = n ∧ ∀ i v, l[i]? = some v → p i v
  | 0, _ => ⟨[], rfl, fun i v h => by simp at h⟩
  | n + 1, h => by
    obtain ⟨l, hl, hp⟩ := list_of_ex (β := β) p n (fun i hi => h i (by omega))
    obtain ⟨v, hv⟩ := h n (by omega)
    refine ⟨l ++ [v], by simp [hl], fun i u hu => ?_⟩
    by_cases hi : i < n
    · rw [List.getElem?_append_left (by omega)] at hu; exact hp i u hu
    · have : i = n := by have := (List.getElem?_eq_some_iff.1 hu).1; simp [hl] at this; omega
      subst this
      rw [List.getElem?_append_right (by omega), hl] at hu
      simp at hu
      subst hu
      exact hv
theorem Opens.slice {α : Type} {T e : TypeId} {d : Kd α} {ok : α → Prop} (hu : P.underlying T = some (.slice e)) (hc : P.cellsOf e = d.sz) (he : Opens enc P w base sp held e d ok) :
    Opens enc P w base sp held T (Kd.slice e d) (fun xs => xs.length ≤ maxLen ∧ ∀ x ∈ xs, ok x) := by
  intro n cs x h
  rcases DataW.trod_slice hu h with ⟨rfl, _⟩ | ⟨a, len, cap, elems, rest, m, _, rfl, _, hb, hl, hm, hlen, hel, _, _⟩
  · exact ⟨[], ⟨none, 0, rfl, Nat.le_refl _, rfl, by simp, fun h => by simp at h⟩, by simp, by simp⟩
  · have each : ∀ i, i < len → ∃ v, ok v ∧ ∃ c, d.K w v c ∧ ∀ j u, c[j]? = some u → w.cell? (a.add (i * d.sz + j)) = some u := by
      intro i hi
      have h1 := hel i hi
      obtain ⟨y, hy⟩ : ∃ y, elems[i]? = some y := ⟨_, List.getElem?_eq_getElem (by omega)⟩
      rw [hy, Option.bind_eq_some_iff] at h1
      obtain ⟨c, hcs, ht⟩ := h1
      obtain ⟨v, hK, hok⟩ := he m c y ht
      refine ⟨v, hok, c, hK, fun j u hj => ?_⟩
      obtain ⟨_, hcl, hcell⟩ := World.cells?_some hcs
      have hjl : j < c.length := (List.getElem?_eq_some_iff.1 hj).1
      have := hcell j (by omega)
      rw [hj, hc] at this
      rw [← this, addr_add_add]
    obtain ⟨xs, hxl, hxs⟩ := list_of_ex (β := α) _ len each
    have hmax : maxLen ≤ 9223372036854775807 := by unfold maxLen; omega
    refine ⟨xs, ⟨some a, cap, by rw [hxl], by omega, rfl, by omega, fun _ => ⟨a, rfl, fun j p hj => ?_⟩⟩, by omega, fun x hx => ?_⟩
    · obtain ⟨_, c, hK, hc'⟩ := hxs j p hj
      exact ⟨c, d.K_len hK, hK, hc'⟩
    · obtain ⟨i, hi⟩ := List.getElem?_of_mem hx
      exact (hxs i x hi).1
/-- A struct's fields from the i-th on, from cell o on. -/
def OpensF {α : Type} (enc : TypeId × Value → H) (P : Program) (w : World) (base : Nat) (sp : Nat → Bool) (held : Bool) (fs : Array Field) (N i o : Nat) (d : Kd α) (ok : α → Prop) : Prop :=
  ∀ (n : Nat) (cs : List Value) (xs : List (DataW H × List MemPlace)), cs.length = N → xs.length = fs.size →
    (∀ (j : Nat) (f : Field), fs[j]? = some f → DataW.trod enc P w base sp held n f.type ((cs.drop f.offset).take (P.cellsOf f.type)) = xs[j]?) → ∃ v, d.K w v (cs.drop o) ∧ ok v
theorem OpensF.last {α : Type} {fs : Array Field} {N i o : Nat} {d : Kd α} {ok : α → Prop} (t c : Nat) (f : Field) (hf : fs[i]? = some f) (ho : f.offset = o) (ht : f.type = t) (hc : P.cellsOf t = c) (hN : o + c = N) (h : Opens enc P w base sp held t d ok) :
    OpensF enc P w base sp held fs N i o d ok := by
  intro n cs xs hl hx hj
  have h1 := hj i f hf
  have hi : i < xs.length := by rw [hx]; exact (Array.getElem?_eq_some_iff.1 hf).1
  rw [List.getElem?_eq_getElem hi, ho, ht, hc, List.take_of_length_le (by rw [List.length_drop]; omega)] at h1
  exact h n _ _ h1
theorem OpensF.cons {α β : Type} {fs : Array Field} {N i o : Nat} {d : Kd α} {d' : Kd β} {ok : α → Prop} {ok' : β → Prop} (t c : Nat) (f : Field) (hf : fs[i]? = some f) (ho : f.offset = o) (ht : f.type = t) (hc : P.cellsOf t = c) (h : Opens enc P w base sp held t d ok)
    (h' : OpensF enc P w base sp held fs N (i + 1) (o + c) d' ok') : OpensF enc P w base sp held fs N i o (Kd.pair d d') (fun v => ok v.1 ∧ ok' v.2) := by
  intro n cs xs hl hx hj
  have h1 := hj i f hf
  have hi : i < xs.length := by rw [hx]; exact (Array.getElem?_eq_some_iff.1 hf).1
  rw [List.getElem?_eq_getElem hi, ho, ht, hc] at h1
  obtain ⟨v, hK, hok⟩ := h n _ _ h1
  obtain ⟨v', hK', hok'⟩ := h' n cs xs hl hx hj
  refine ⟨(v, v'), ⟨_, _, ?_, hK, hK'⟩, hok, hok'⟩
  rw [← List.drop_drop, List.take_append_drop]
theorem Opens.struct {α : Type} {T : TypeId} {fs : Array Field} {N : Nat} {d : Kd α} {ok : α → Prop} (hu : P.underlying T = some (.struct fs)) (hN : P.cellsOf T = N) (h : OpensF enc P w base sp held fs N 0 0 d ok) : Opens enc P w base sp held T d ok := by
  intro n cs x hx
  obtain ⟨xs, m, rfl, _, hl, hlen, hf⟩ := DataW.trod_struct hu hx
  have := h m cs xs (by rw [hl, hN]) hlen hf
  simpa using this
theorem Opens.iso {α β : Type} {T : TypeId} {d : Kd α} {ok : α → Prop} (f : β → α) (g : α → β) (hfg : ∀ a, f (g a) = a) (h : Opens enc P w base sp held T d ok) : Opens enc P w base sp held T (Kd.iso d f) (fun b => ok (f b)) := by
  intro n cs x hx
  obtain ⟨v, hK, hok⟩ := h n cs x hx
  refine ⟨g v, ?_, ?_⟩
  · show d.K w (f (g v)) cs; rw [hfg]; exact hK
  · show ok (f (g v)); rw [hfg]; exact hok
theorem Opens.agg {α : Type} {T : TypeId} {fs : Array Field} {d : Kd α} {ok : α → Prop} (h : Opens enc P w base sp held T d ok) {r : Reach} {b0 : Nat} {v : Value} {x : DataW H} {p : List MemPlace} (hs : P.underlying T = some (.struct fs))
    (hv : Value.okWide P w r b0 T v) (ht : DataW.Trod enc P w base sp held T v x p) : ∃ a cs, v = .agg cs.toArray ∧ d.K w a cs ∧ ok a := by
  obtain ⟨cs, rfl, _⟩ := Go.WideShapes.okWide_struct hs hv
  obtain ⟨n, hn⟩ := ht
  obtain ⟨a, hK, hok⟩ := h n _ _ hn
  exact ⟨a, _, rfl, hK, hok⟩
end
end Go.Proofs.Ythgmjhidigoneaa.Open
