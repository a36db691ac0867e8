/- The library's functions over lists of rectangles and of edges, as contracts of the executor's: AN AGENT'S OWN TEXT. -/
import Derived.Test.YtpicoedbkeljoaaSyB
import Derived.Test.YtpicoedbkeljoaaProg
import Derived.KernelRfl
import Derived.Shelf.SlSortCmp.WholeK
import Derived.Shelf.SlSortCmp.NoneTotal
import Derived.Shelf.Lay
import Derived.Ground.SlsfProg
import Derived.Ground.NamesProg
import Derived.Lib.OwnBridge
import Derived.Sort.OwnSortedInts
set_option linter.unusedVariables false
set_option linter.unusedSimpArgs false
set_option maxRecDepth 100000
namespace Go.Proofs
open Go.Shelf
shelf_lay_g SlLaysF0.n6 Slsf 6 at Try 68 as Try.laysSortE
end Go.Proofs
namespace Go.Proofs.Ytpicoedbkeljoaa.Hv
open Go Go.RowKit Go.Shelf Go.Sort Go.Proofs Go.Proofs.Ytpicoedbkeljoaa.Sy
def rwE : Rw (Int × Int) := rwP rwI rwI
def encE (x : Int × Int) : List Value := [.int .i64 x.1, .int .i64 x.2]
def cfE (x y : Int × Int) : Int := if x.1 < y.1 then -1 else if y.1 < x.1 then 1 else 0
theorem ltE (x y : Int × Int) : ltOf cfE x y = decide (x.1 < y.1) := by
  unfold ltOf cfE
  by_cases h1 : x.1 < y.1
  · simp [h1]
  · by_cases h2 : y.1 < x.1 <;> simp [h1, h2]
theorem swoE : SWO (ltOf cfE) where
  irrefl x := by rw [ltE]; simp
  trans x y z h1 h2 := by rw [ltE] at *; simp at *; omega
  ntrans x y z h1 h2 := by rw [ltE] at *; simp at *; omega
set_option maxHeartbeats 1000000 in
theorem closure69 (x y : Int × Int) (W : World) : Calls Try.prog 69 #[.agg #[.int .i64 x.1, .int .i64 x.2], .agg #[.int .i64 y.1, .int .i64 y.2]] W fun e w' => e = .returned (.int .i64 (cfE x y)) ∧ ∃ q os', w' = grow (W.drewN q) os' := by
  go_enter Try.func69, Try.ntmps69
  go_wp2
  all_goals go_ret
  all_goals refine ⟨?_, 0, _, by rw [alloc_eq_grow, alloc_eq_grow, grow_grow]; rfl⟩
  all_goals unfold cfE
  all_goals split
  all_goals (first | rfl | (split <;> first | rfl | omega) | omega)
theorem cmpLays69 (blk off size : Nat) (w : World) : CmpLays Try.prog 69 #[] encE 2 cfE blk off size w := fun _ _ _ _ x y => closure69 x y _
/-- The edges, sorted as the library does. -/
def sortE (zs : List (Int × Int)) : List (Int × Int) := (pdq (ltOf cfE) zs.toArray 0 zs.toArray.size (Lib.bitLen zs.toArray.size) true true).toList
theorem sortE_len (zs : List (Int × Int)) : (sortE zs).length = zs.length := by
  have h := pdq_sorts (ltOf cfE) swoE zs.toArray 0 zs.toArray.size (Lib.bitLen zs.toArray.size) true true (Nat.zero_le _) (Nat.le_refl _) (Or.inl rfl)
  have := h.1.1
  simpa [sortE] using this
theorem sortE_perm (zs : List (Int × Int)) : (sortE zs).Perm zs := by
  have h := pdq_sorts (ltOf cfE) swoE zs.toArray 0 zs.toArray.size (Lib.bitLen zs.toArray.size) true true (Nat.zero_le _) (Nat.le_refl _) (Or.inl rfl)
  have h1 := h.1.2.2
  have h2 := h.1.1
  rw [Array.extract_eq_self_of_le (by omega), Array.extract_eq_self_of_le (by simp)] at h1
  simpa [sortE] using h1
theorem sortE_sorted (zs : List (Int × Int)) : (sortE zs).Pairwise (fun a b => a.1 ≤ b.1) := by
  have h := pdq_sorts (ltOf cfE) swoE zs.toArray 0 zs.toArray.size (Lib.bitLen zs.toArray.size) true true (Nat.zero_le _) (Nat.le_refl _) (Or.inl rfl)
  have h2 := h.1.1
  rw [List.pairwise_iff_getElem]
  intro i j hi hj hij
  have hi' : i < (pdq (ltOf cfE) zs.toArray 0 zs.toArray.size (Lib.bitLen zs.toArray.size) true true).size := by simpa [sortE] using hi
  have hj' : j < (pdq (ltOf cfE) zs.toArray 0 zs.toArray.size (Lib.bitLen zs.toArray.size) true true).size := by simpa [sortE] using hj
  have h3 := h.2 i j (Nat.zero_le _) hij (by omega)
  rw [ltE, getElem!_pos _ i hi', getElem!_pos _ j hj'] at h3
  simp only [decide_eq_false_iff_not] at h3
  show ((sortE zs)[i]).1 ≤ ((sortE zs)[j]).1
  simp only [sortE, Array.getElem_toList]
  omega
/-! the row, flat -/
theorem heap_sortedV {w : World} {g n : Nat} {os : Array Obj} {cur : Array Value} {e : TypeId} {fr : Nat × Nat} (d : Array Value) (hb : w.heap[g]? = some (.cells cur e fr)) :
    (grow (putRow id (Sort.ahead w n) g 0 d) os).heap[g]? = some (.cells (putCells id 0 d cur) e fr) := by
  have hg : g < w.heap.size := (Array.getElem?_eq_some_iff.1 hb).1
  rw [heap_grow_old _ _ (by simpa using hg)]
  simp [putRow, mapBlock, Sort.ahead, Array.getElem?_modify, hb, onCells]
theorem grownBy_sortedV {w : World} {g n : Nat} {os : Array Obj} (d : Array Value) : w.grownBy (grow (putRow id (Sort.ahead w n) g 0 d) os) (some g) := by
  refine ⟨rfl, rfl, rfl, by simp, fun k hk hne => ?_⟩
  rw [heap_grow_old _ _ (by simpa using hk)]
  have : g ≠ k := fun e => hne (by rw [e])
  simp [putRow, mapBlock, Sort.ahead, Array.getElem?_modify, this]
theorem take_putCellsV (cur : Array Value) (ts : List Value) (h : ts.length ≤ cur.size) : (putCells id 0 ts.toArray cur).toList.take ts.length = ts := by
  apply List.ext_getElem?
  intro j
  by_cases hj : j < ts.length
  · rw [List.getElem?_take_of_lt hj, Array.getElem?_toList]
    simp [putCells, hj, show j < cur.size by omega]
  · rw [List.getElem?_take_eq_none (by omega), List.getElem?_eq_none (by omega)]
def fl2 (l : List (Int × Int)) : List Value := (l.map encE).flatten
theorem fl2_len (l : List (Int × Int)) : (fl2 l).length = l.length * 2 := by
  induction l with
  | nil => rfl
  | cons x l ih => simp only [fl2, List.map_cons, List.flatten_cons, List.length_append] at ih ⊢; simp [ih, encE]; omega
theorem fl2_get : ∀ (l : List (Int × Int)) (i c : Nat), i < l.length → c < 2 → (fl2 l)[i * 2 + c]? = (encE (l[i]!))[c]?
  | x :: l, 0, c, h, hc => by
    simp only [fl2, List.map_cons, List.flatten_cons, Nat.zero_mul, Nat.zero_add]
    rw [List.getElem?_append_left (by simpa [encE] using hc)]
    rfl
  | x :: l, i + 1, c, h, hc => by
    have ih := fl2_get l i c (by simpa using h) hc
    simp only [fl2, List.map_cons, List.flatten_cons] at ih ⊢
    rw [List.getElem?_append_right (by simp [encE]; omega), show (i + 1) * 2 + c - (encE x).length = i * 2 + c by simp [encE]; omega, ih]
    simp
theorem flat_fl2 (l : List (Int × Int)) : flatK encE 2 l.toArray = (fl2 l).toArray := by
  apply Array.ext
  · simp [fl2_len]
  intro t h1 h2
  have h3 : t < l.length * 2 := by simpa using h1
  have h4 := fl2_get l (t / 2) (t % 2) (by omega) (by omega)
  rw [show t / 2 * 2 + t % 2 = t by omega] at h4
  have h5 := get_flatK encE 2 l.toArray t (by simpa using h3)
  rw [getElem!_pos _ t h1] at h5
  rw [h5]
  have h6 : t % 2 < (encE (l[t / 2]!)).length := by simp [encE]; omega
  rw [List.getElem?_eq_getElem (by rw [fl2_len]; exact h3), List.getElem?_eq_getElem h6] at h4
  simp only [Option.some.injEq] at h4
  rw [List.getElem_toArray, h4, getElem!_pos _ (t % 2) (by simpa using h6)]
  simp
theorem rows_e {w : World} {S : Nat → Prop} : ∀ {zs : List (Int × Int)} {vals : List (List Value)}, RepRows w S 2 (zs.map rwE.en) vals → vals = zs.map encE
  | [], [], _ => rfl
  | z :: zs, v :: vs, h => by
    have h1 := h.1.2
    have e : v = encE z := by
      match v, h1 with
      | [u1, u2], h1 => have a := h1.1; have b := h1.2.1; cases a; cases b; rfl
    rw [e, rows_e h.2]; rfl
  | [], _ :: _, h => h.elim
  | _ :: _, [], h => h.elim
theorem e_rows {w : World} {S : Nat → Prop} : ∀ (zs : List (Int × Int)), RepRows w S 2 (zs.map rwE.en) (zs.map encE)
  | [] => trivial
  | z :: zs => ⟨⟨rfl, .int z.1, .int z.2, trivial⟩, e_rows zs⟩
def sfApp : App := fun ps => match ps with
  | [.lst _ rows] => (mapO rwE.de rows).bind fun zs => if zs.length < 4611686018427387904 then some [.lst 2 ((sortE zs).map rwE.en)] else none
  | _ => none
def xsf (l : List (Int × Int)) : Option (List (Int × Int)) := if l.length < 4611686018427387904 then some (sortE l) else none
theorem xsf_ap (et sz : Nat) (l : List (Int × Int)) : sfApp [.lst sz (l.map rwE.en)] = (xsf l).map (rwL et 2 rwE rfl).en := by
  unfold sfApp xsf
  simp only [show mapO rwE.de (l.map rwE.en) = some l from mapO_en rwE l, Option.bind_some]
  split <;> rfl
theorem sortF_ok {F : FnE} (hF : F 1000005 = sfApp) : MuOk Try.prog F 68 1000005 99 2 [69] := by
  refine ⟨enters_of Try.func68 (by kernel_rfl) rfl, by decide, fun sz0 rows r h => ?_⟩
  rw [hF] at h
  simp only [sfApp, Option.bind_eq_some_iff] at h
  obtain ⟨zs, hz, h⟩ := h
  split at h
  case isFalse => cases h
  rename_i hbig
  cases h
  have hrows : rows = zs.map rwE.en := mapO_de rwE rows zs hz
  subst hrows
  refine ⟨_, rfl, by simp [sortE_len], fun w S base v vals hS hnS hrr hown hbase => ?_⟩
  have hv := rows_e hrr
  subst hv
  rw [List.length_map] at hown
  have eg : ∀ args w, (callFunc 69 args).run Try.prog w = .ok (.enter 69 args) w := enters_of Try.func69 (by kernel_rfl) rfl
  rcases hown.2 with ⟨rfl, h0⟩ | ⟨g, cap, cur, rfl, hbg, hg, hnc, hcm, hcs, htake⟩
  · have hz0 : zs = [] := List.eq_nil_of_length_eq_zero h0
    subst hz0
    have hcon := AnyF.slices_SortFunc_none Try.laysSortE none 0 (.func (.func 69) #[] #[]) w
    change Calls Try.prog 68 _ _ _ at hcon
    refine Calls.mono hcon fun e w' he => ?_
    obtain ⟨rfl, rfl⟩ := he
    have hs0 : sortE [] = [] := List.eq_nil_of_length_eq_zero (sortE_len [])
    rw [hs0]
    exact ⟨rfl, [], trivial, World.ownsRow_nil _ _ _ _, ⟨rfl, rfl, rfl, Nat.le_refl _, fun _ _ _ => rfl⟩⟩
  · have hlen : (zs.map encE).flatten.length = zs.length * 2 := hown.1
    have hH : HoldsK encE 2 w g 0 zs.toArray := by
      unfold HoldsK
      rw [flat_fl2]
      intro j hj
      have hj' : j < (fl2 zs).length := by simpa using hj
      refine ⟨?_, by simp [World.frozen?, hg]⟩
      have h1 : (cur.toList.take (zs.length * 2))[j]? = (fl2 zs)[j]? := by rw [htake]; rfl
      rw [List.getElem?_take_of_lt (by rw [fl2_len] at hj'; exact hj')] at h1
      simp only [World.cell?, hg, Nat.zero_add, Option.isSome_none, Bool.false_eq_true, if_false]
      rw [← Array.getElem?_toList, h1]
      simp [hj']
    have hcon := AnyQ.slices_SortFunc_eq Try.laysSortE 2 Try.isAgg99 Try.sizeOf99 encE (fun _ => rfl) (fun x v hv => by simp [encE] at hv; rcases hv with rfl | rfl <;> rfl) cfE swoE 69 #[] g 0 cap zs.toArray w eg (cmpLays69 g 0 zs.toArray.size w) hH (Array.getElem?_eq_some_iff.1 hg).1 (by simpa using hbig)
    change Calls Try.prog 68 _ _ _ at hcon
    rw [show zs.toArray.size = zs.length by simp] at hcon
    refine Calls.mono hcon fun e w' he => ?_
    obtain ⟨rfl, nn, os, rfl⟩ := he
    have hpq : pdq (ltOf cfE) zs.toArray 0 zs.length (Lib.bitLen zs.length) true true = (sortE zs).toArray := by simp [sortE]
    have hfl : flatK encE 2 (sortE zs).toArray = (fl2 (sortE zs)).toArray := flat_fl2 _
    have hll : (fl2 (sortE zs)).length = zs.length * 2 := by rw [fl2_len, sortE_len]
    have hcl : zs.length * 2 ≤ cur.size := by rw [hcs]; exact Nat.mul_le_mul_right 2 hnc
    refine ⟨rfl, (sortE zs).map encE, e_rows _, ?_, ?_⟩
    · rw [List.length_map]
      refine ⟨by rw [show ((sortE zs).map encE).flatten = fl2 (sortE zs) from rfl, fl2_len], .inr ⟨g, cap, putCells id 0 (fl2 (sortE zs)).toArray cur, by rw [sortE_len], hbg, ?_, by rw [sortE_len]; exact hnc, hcm, ?_, ?_⟩⟩
      · unfold sortWorldK putRowK
        rw [hpq, hfl]
        exact heap_sortedV _ hg
      · simp [putCells, hcs]
      · have := take_putCellsV cur (fl2 (sortE zs)) (by omega)
        rw [hll] at this
        rw [sortE_len]
        exact this
    · unfold sortWorldK putRowK
      exact grownBy_sortedV _
end Go.Proofs.Ytpicoedbkeljoaa.Hv
