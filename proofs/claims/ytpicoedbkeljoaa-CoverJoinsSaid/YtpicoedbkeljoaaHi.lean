/- The library's copy and sort of lists of numbers, as contracts of the executor's. -/
import Derived.Test.YtpicoedbkeljoaaSyB
import Derived.Test.YtpicoedbkeljoaaProg
import Derived.KernelRfl
import Derived.Ground.NamesProg
import Derived.Ground.Names2Prog
import Derived.Shelf.Lay
import Derived.Shelf.Slices.In.Clone
import Derived.Shelf.Slices.In.SortNone
import Derived.Shelf.Sort.Plain
import Derived.Lib.OwnBridge
import Derived.Sort.OwnSortedInts
import Derived.Sort.EveryDepth
set_option linter.unusedVariables false
set_option linter.unusedSimpArgs false
set_option maxRecDepth 100000
namespace Go.Proofs
open Go.Shelf
shelf_lay Lays2.n15 Nm2 15 at Try as Try.laysClone
shelf_lay Lays.n189 Nm 189 at Try as Try.laysSort
end Go.Proofs
namespace Go.Proofs.Ytpicoedbkeljoaa.Hi
open Go Go.RowKit Go.Shelf Go.Sort Go.Proofs Go.Proofs.Ytpicoedbkeljoaa.Sy
theorem clone_ok {F : FnE} (hF : F PCLI = cliApp) : MkOk Try.prog F 41 PCLI 3 1 [] 1 := by
  refine ⟨enters_of Try.func41 (by kernel_rfl) rfl, by decide, fun rows r h => ?_⟩
  rw [hF] at h
  simp only [cliApp, Option.bind_eq_some_iff] at h
  obtain ⟨zs, hz, h⟩ := h
  split at h
  case isFalse => cases h
  rename_i hbig
  cases h
  have hrows := mapO_ints hz
  subst hrows
  refine ⟨_, rfl, fun w S v hS hrep => ?_⟩
  obtain ⟨ad, n, c, rfl⟩ : ∃ ad n c, v = .slice ad n c := by cases hrep; exact ⟨_, _, _, rfl⟩
  obtain ⟨e1, e2, e3, e4, vals, e5, e6⟩ := hrep.list
  have hv := rows_ints e5
  subst hv
  have hn : n = zs.length := by rw [e1, List.length_map]
  have fin (v' : Value) (w' : World) (k : Nat) (hk : k = zs.length) (hown : w'.ownsRow w.heap.size 3 1 v' k (zs.map (Value.int .i64))) (hb : Below w.heap.size w w') :
      ∃ vals, RepRows w' S 1 (zs.map rwI.en) vals ∧ w'.ownsRow w.heap.size 3 1 v' (zs.map rwI.en).length vals.flatten ∧ Below w.heap.size w w' :=
    ⟨_, ints_rows zs, by rw [ints_flat, List.length_map, ← hk]; exact hown, hb⟩
  by_cases h0 : zs = []
  · subst h0
    simp only [List.length_nil] at hn
    subst hn
    cases ad with
    | none =>
      have C := calls_of_every_depth fun D => AnyS.slices_Clone_int_nil_in Try.laysClone D 0 c w
      refine Calls.mono C fun e w' he => ?_
      obtain ⟨rfl, rfl⟩ := he
      exact fin _ _ 0 rfl (World.ownsRow_nil _ _ _ _) (Below.refl _ _)
    | some a =>
      have C := calls_of_every_depth fun D => AnyS.slices_Clone_int_zero_in Try.laysClone D a c w
      refine Calls.mono C fun e w' he => ?_
      obtain ⟨v', rfl, hown, _, hb⟩ := he
      exact fin _ _ 0 rfl hown hb
  · obtain ⟨b, off, rfl, hSb, hcell⟩ := e6 (by simpa using h0)
    have C := calls_of_every_depth fun D => AnyS.slices_Clone_int_in Try.laysClone D b off n c zs w (by omega) (by omega) (fun j hj => by
      have := hcell j 0 [Value.int .i64 zs[j]] (Value.int .i64 zs[j]) (by simp [hj]) rfl
      rw [Nat.mul_one, Nat.add_zero] at this
      rw [this]; simp [List.getD, hj])
    refine Calls.mono C fun e w' he => ?_
    obtain ⟨v', rfl, hown, _, hb⟩ := he
    rw [hn, List.take_length] at hown
    exact fin _ _ zs.length rfl hown hb
theorem sort_ok {F : FnE} (hF : F PSTI = stiApp) : MuOk Try.prog F 42 PSTI 3 1 [] := by
  refine ⟨enters_of Try.func42 (by kernel_rfl) rfl, by decide, fun sz0 rows r h => ?_⟩
  rw [hF] at h
  simp only [stiApp, Option.bind_eq_some_iff] at h
  obtain ⟨zs, hz, h⟩ := h
  split at h
  case isFalse => cases h
  rename_i hbig
  cases h
  have hrows := mapO_ints hz
  subst hrows
  refine ⟨_, rfl, by simp, fun w S base v vals hS hnS hrr hown hbase => ?_⟩
  have hv := rows_ints hrr
  subst hv
  rw [ints_flat, List.length_map] at hown
  rcases hown.2 with ⟨rfl, h0⟩ | ⟨g, cap, cur, rfl, hbg, hg, hnc, hcm, hcs, htake⟩
  · have hz0 : zs = [] := List.eq_nil_of_length_eq_zero h0
    subst hz0
    refine Calls.mono (Any.slices_Sort_int_none Try.laysSort none 0 w) fun e w' he => ?_
    obtain ⟨rfl, rfl⟩ := he
    rw [show (([] : List Int).mergeSort fun x y => decide (x ≤ y)) = [] by simp]
    exact ⟨rfl, [], trivial, World.ownsRow_nil _ _ _ _, ⟨rfl, rfl, rfl, Nat.le_refl _, fun _ _ _ => rfl⟩⟩
  · obtain ⟨g', cap', hv', _, hgl, _, _, _, hH⟩ := Lib.holds_of_ownsRow hown (by simp)
    cases hv'
    refine Calls.mono (Any.slices_Sort_int Try.laysSort g 0 cap zs w hH hgl hbig) fun e w' he => ?_
    obtain ⟨rfl, nn, os, rfl⟩ := he
    refine ⟨rfl, _, ints_rows _, ?_, grownBy_sortedI _⟩
    rw [ints_flat, List.length_map, List.length_mergeSort]
    exact ownsRow_sortedI (List.length_mergeSort zs) hbg hg hnc hcm (by rw [hcs])
end Go.Proofs.Ytpicoedbkeljoaa.Hi
