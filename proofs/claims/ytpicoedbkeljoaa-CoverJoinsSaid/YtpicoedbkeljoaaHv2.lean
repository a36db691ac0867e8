import Derived.Test.YtpicoedbkeljoaaSyB
import Derived.Test.YtpicoedbkeljoaaProg
import Derived.KernelRfl
import Derived.Shelf.Slices.CompactI
import Derived.Shelf.SlicesQ.IndexFunc
import Derived.Shelf.SlicesE.DeleteFunc
import Derived.Shelf.Lay
import Derived.Ground.SlgfProg
import Derived.Ground.NamesProg
import Derived.Ground.Names2Prog
import Derived.Lib.OwnBridge
import Derived.Sort.OwnSortedInts
import Derived.Sort.WalkB12
import Derived.Shelf.RegionOpenPlain
set_option linter.unusedVariables false
set_option linter.unusedSimpArgs false
set_option maxRecDepth 100000
namespace Go.Proofs
open Go.Shelf
shelf_lay Lays2.n20 Nm2 20 at Try as Try.laysCompact
shelf_lay_g SlLaysH0.n6 Slgf 6 at Try 65 as Try.laysIdx
end Go.Proofs
namespace Go.Proofs.Ytpicoedbkeljoaa.Hv
open Go Go.RowKit Go.Shelf Go.Sort Go.Proofs Go.Proofs.Ytpicoedbkeljoaa.Sy
/-! ### runs of equals struck -/
def coApp : App := fun ps => match ps with
  | [.lst _ rows] => (mapO deI rows).bind fun zs => if zs.length ≤ 4611686018427387904 then some [.lst 1 ((Lib.compact zs).map rwI.en)] else none
  | _ => none
def xco (l : List Int) : Option (List Int) := if l.length ≤ 4611686018427387904 then some (Lib.compact l) else none
theorem xco_ap (et sz : Nat) (l : List Int) : coApp [.lst sz (l.map rwI.en)] = (xco l).map (rwL et 1 rwI rfl).en := by
  unfold coApp xco
  simp only [show mapO deI (l.map rwI.en) = some l from mapO_en rwI l, Option.bind_some]
  split <;> rfl
theorem compact_len (zs : List Int) : (Lib.compact zs).length ≤ zs.length := by
  unfold Lib.compact Lib.compactUpTo
  rw [List.length_map]
  exact Nat.le_trans (List.length_filter_le _ _) (by simp)
theorem compact_ok {F : FnE} (hF : F 1000006 = coApp) : M2Ok Try.prog F 67 1000006 3 1 [] := by
  refine ⟨enters_of Try.func67 (by kernel_rfl) rfl, by decide, fun sz0 rows r h => ?_⟩
  rw [hF] at h
  simp only [coApp, Option.bind_eq_some_iff] at h
  obtain ⟨zs, hz, h⟩ := h
  split at h
  case isFalse => cases h
  rename_i hbig
  cases h
  have hrows := mapO_ints hz
  subst hrows
  refine ⟨_, rfl, fun w S base v vals hS hnS hrr hown hbase => ?_⟩
  have hv := rows_ints hrr
  subst hv
  rw [ints_flat, List.length_map] at hown
  have hfin : ∀ (w' : World) (u : Value) (k : Nat), k = (Lib.compact zs).length → w'.ownsRow base 3 1 u k ((Lib.compact zs).map (Value.int .i64)) → w.grownBy w' v.ownBlock → (∀ b, u.ownBlock = some b → w.heap.size ≤ b ∨ v.ownBlock = some b) →
      ∃ vals', RepRows w' S 1 ((Lib.compact zs).map rwI.en) vals' ∧ w'.ownsRow base 3 1 u ((Lib.compact zs).map rwI.en).length vals'.flatten ∧ w.grownBy w' v.ownBlock ∧ (∀ b, u.ownBlock = some b → w.heap.size ≤ b ∨ v.ownBlock = some b) := fun w' u k hk h1 h2 h3 =>
    ⟨_, ints_rows _, by rw [ints_flat, List.length_map, ← hk]; exact h1, h2, h3⟩
  rcases hown.2 with ⟨rfl, h0⟩ | ⟨g, cap, cur, rfl, hbg, hg, hnc, hcm, hcs, htake⟩
  · have hz0 : zs = [] := List.eq_nil_of_length_eq_zero h0
    subst hz0
    have hcon := Any.slices_Compact_int_empty Try.laysCompact none 0 w
    change Calls Try.prog 67 _ _ _ at hcon
    refine Calls.mono hcon fun e w' he => ?_
    obtain ⟨rfl, rfl⟩ := he
    have hc0 : Lib.compact ([] : List Int) = [] := List.eq_nil_of_length_eq_zero (Nat.le_zero.1 (compact_len []))
    refine hfin _ _ 0 (by rw [hc0]; rfl) ?_ ⟨rfl, rfl, rfl, Nat.le_refl _, fun _ _ _ => rfl⟩ (by simp [Value.ownBlock])
    rw [hc0]
    exact World.ownsRow_nil _ _ _ _
  · obtain ⟨g', cap', hv', _, hgl, _, _, _, hH⟩ := Lib.holds_of_ownsRow hown (by simp)
    cases hv'
    have hcon := Any.slices_Compact_int Try.laysCompact g 0 cap zs w hH (by omega) hnc
    change Calls Try.prog 67 _ _ _ at hcon
    refine Calls.mono hcon fun e w' he => ?_
    obtain ⟨rfl, q, rfl⟩ := he
    have hle := compact_len zs
    have ho := Lib.ownsRow_putRow (q := q) (ys := Lib.compact zs ++ List.replicate (zs.length - (Lib.compact zs).length) 0) hown (by simp; omega) hle
    rw [List.take_append_of_le_length (Nat.le_refl _), List.take_length] at ho
    refine hfin _ _ _ rfl ho ?_ (fun b hb => .inr hb)
    have := grownBy_sortedI (w := w) (g := g) (n := q) (os := #[]) (Lib.compact zs ++ List.replicate (zs.length - (Lib.compact zs).length) 0).toArray
    rwa [grow_empty] at this
/-! ### empty rectangles struck -/
abbrev Rc := Int × Int × Int × Int
def rwR : Rw Rc := rwP rwI (rwP rwI (rwP rwI rwI))
def encR (r : Rc) : List Value := [.int .i64 r.1, .int .i64 r.2.1, .int .i64 r.2.2.1, .int .i64 r.2.2.2]
def emptyR (r : Rc) : Bool := if r.2.2.1 ≤ r.1 then true else decide (r.2.2.2 ≤ r.2.1)
def fl4 (l : List Rc) : List Value := (l.map encR).flatten
theorem empty_run (r : Rc) (W : World) : Calls Try.prog 45 #[.agg #[.int .i64 r.1, .int .i64 r.2.1, .int .i64 r.2.2.1, .int .i64 r.2.2.2]] W fun e w' => e = .returned (.bool (emptyR r)) ∧ w' = W.alloc (.cells #[.int .i64 r.1, .int .i64 r.2.1, .int .i64 r.2.2.1, .int .i64 r.2.2.2] 37) := by
  unfold emptyR
  go_enter Try.func45, Try.ntmps45
  go_wp2
  all_goals go_ret
  all_goals simp_all
theorem predR (w : World) : PredBelow Try.prog 45 #[] (fun x => .agg (encR x).toArray) emptyR w := fun W x hb => by
  refine Calls.mono (empty_run x W) fun e w' he => ?_
  obtain ⟨rfl, rfl⟩ := he
  exact ⟨rfl, hb.alloc hb.size _⟩
theorem fl4_len (l : List Rc) : (fl4 l).length = l.length * 4 := by
  induction l with
  | nil => rfl
  | cons x l ih => simp only [fl4, List.map_cons, List.flatten_cons, List.length_append] at ih ⊢; simp [ih, encR]; omega
theorem fl4_append (l l' : List Rc) : fl4 (l ++ l') = fl4 l ++ fl4 l' := by simp [fl4]
theorem fl4_get : ∀ (l : List Rc) (i c : Nat), (h : i < l.length) → c < 4 → (fl4 l)[i * 4 + c]? = (encR (l[i]'h))[c]?
  | x :: l, 0, c, h, hc => by
    simp only [fl4, List.map_cons, List.flatten_cons, Nat.zero_mul, Nat.zero_add]
    rw [List.getElem?_append_left (by simpa [encR] using hc)]
    rfl
  | x :: l, i + 1, c, h, hc => by
    have ih := fl4_get l i c (by simpa using h) hc
    simp only [fl4, List.map_cons, List.flatten_cons] at ih ⊢
    rw [List.getElem?_append_right (by simp [encR]; omega), show (i + 1) * 4 + c - (encR x).length = i * 4 + c by simp [encR]; omega, ih]
    simp
/-- What the row's block holds. -/
def Lies (g : Nat) (w : World) (tail : List Value) (dk : List Rc) (W : World) : Prop := W.heap[g]? = some (.cells (fl4 dk ++ tail).toArray 37 (0, 0)) ∧ w.grownBy W (some g)
theorem Lies.cell {g : Nat} {w W : World} {tail : List Value} {dk : List Rc} (h : Lies g w tail dk W) {i c : Nat} (hi : i < dk.length) (hc : c < 4) : W.cell? ⟨g, i * 4 + c, none⟩ = (encR (dk[i]'hi))[c]? := by
  have h1 := fl4_get dk i c hi hc
  have h2 : i * 4 + c < (fl4 dk).length := by rw [fl4_len]; omega
  unfold World.cell?
  rw [h.1]
  show (if _ then _ else _) = _
  simp only [Option.isSome_none, Bool.false_eq_true, if_false, List.getElem?_toArray]
  rw [List.getElem?_append_left h2, h1]
theorem Lies.frozen {g : Nat} {w W : World} {tail : List Value} {dk : List Rc} (h : Lies g w tail dk W) (o : Nat) : W.frozen? ⟨g, o, none⟩ = false := by
  simp [World.frozen?, h.1]
theorem heap_setCellG {W : World} {g : Nat} {cs : Array Value} {t : Nat} (h : W.heap[g]? = some (.cells cs t (0, 0))) (o : Nat) (v : Value) : (W.setCell ⟨g, o, none⟩ v).heap[g]? = some (.cells (cs.setIfInBounds o v) t (0, 0)) := by
  simp [World.setCell, Array.getElem?_modify, h]
theorem cell_other (W : World) (g o o' : Nat) (v : Value) (h : o ≠ o') : (W.setCell ⟨g, o, none⟩ v).cell? ⟨g, o', none⟩ = W.cell? ⟨g, o', none⟩ :=
  World.cell?_setCell_other W _ _ v (by intro e; cases e; exact h rfl)
theorem Lies.alloc {g : Nat} {w W : World} {tail : List Value} {dk : List Rc} (h : Lies g w tail dk W) (o : Obj) : Lies g w tail dk (W.alloc o) := by
  have hlt : g < W.heap.size := (Array.getElem?_eq_some_iff.1 h.1).1
  refine ⟨(Below.heap_alloc W o g hlt).trans h.1, h.2.os, h.2.tape, h.2.output, by have := h.2.size; simp; omega, fun k hk hne => ?_⟩
  exact (Below.heap_alloc W o k (Nat.lt_of_lt_of_le hk h.2.size)).trans (h.2.block k hk hne)
theorem fl4_set (x : Rc) : ∀ (l : List Rc) (i : Nat), i < l.length → fl4 (l.set i x) = ((((fl4 l).set (i * 4) (.int .i64 x.1)).set (i * 4 + 1) (.int .i64 x.2.1)).set (i * 4 + 2) (.int .i64 x.2.2.1)).set (i * 4 + 3) (.int .i64 x.2.2.2)
  | y :: l, 0, h => by simp [fl4, encR]
  | y :: l, i + 1, h => by
    have ih := fl4_set x l i (by simpa using h)
    have e : fl4 (y :: l) = encR y ++ fl4 l := by simp [fl4]
    have e' : fl4 ((y :: l).set (i + 1) x) = encR y ++ fl4 (l.set i x) := by simp [fl4]
    have hl : (encR y).length = 4 := rfl
    rw [e, e', ih, List.set_append_right _ _ (by omega), List.set_append_right _ _ (by omega), List.set_append_right _ _ (by omega), List.set_append_right _ _ (by omega)]
    rw [show (i + 1) * 4 - (encR y).length = i * 4 by omega, show (i + 1) * 4 + 1 - (encR y).length = i * 4 + 1 by omega, show (i + 1) * 4 + 2 - (encR y).length = i * 4 + 2 by omega, show (i + 1) * 4 + 3 - (encR y).length = i * 4 + 3 by omega]
theorem Lies.set {g : Nat} {w W : World} {tail : List Value} {dk : List Rc} (h : Lies g w tail dk W) {i : Nat} (hi : i < dk.length) (x : Rc) :
    Lies g w tail (dk.set i x) ((((W.setCell ⟨g, i * 4, none⟩ (.int .i64 x.1)).setCell ⟨g, i * 4 + 1, none⟩ (.int .i64 x.2.1)).setCell ⟨g, i * 4 + 2, none⟩ (.int .i64 x.2.2.1)).setCell ⟨g, i * 4 + 3, none⟩ (.int .i64 x.2.2.2)) := by
  have hl := fl4_len dk
  refine ⟨?_, ?_⟩
  · rw [heap_setCellG (heap_setCellG (heap_setCellG (heap_setCellG h.1 _ _) _ _) _ _) _ _, fl4_set x dk i hi]
    congr 2
    apply Array.toList_inj.1
    simp only [Array.toList_setIfInBounds]
    rw [List.set_append_left _ _ (by omega), List.set_append_left _ _ (by simp; omega), List.set_append_left _ _ (by simp; omega), List.set_append_left _ _ (by simp; omega)]
  · have hk : ∀ (X : World) (o : Nat) (v : Value) (k : Nat), k ≠ g → (X.setCell ⟨g, o, none⟩ v).heap[k]? = X.heap[k]? := fun X o v k hne => Below.heap_setCell _ _ _ k (fun e => hne e)
    refine ⟨h.2.os, h.2.tape, h.2.output, by have := h.2.size; simpa [World.setCell] using this, fun k hlt hne => ?_⟩
    have hne' : k ≠ g := fun e => hne (by rw [e])
    rw [hk _ _ _ k hne', hk _ _ _ k hne', hk _ _ _ k hne', hk _ _ _ k hne']
    exact h.2.block k hlt hne
theorem vcell (W : World) (x : Rc) (o : Obj) {c : Nat} (hc : c < 4) : ((W.alloc (.cells #[.int .i64 x.1, .int .i64 x.2.1, .int .i64 x.2.2.1, .int .i64 x.2.2.2] 37)).alloc o).cell? ⟨W.heap.size, c, none⟩ = (encR x)[c]? := by
  have h1 : (W.alloc (.cells #[.int .i64 x.1, .int .i64 x.2.1, .int .i64 x.2.2.1, .int .i64 x.2.2.2] 37)).heap[W.heap.size]? = some (.cells #[.int .i64 x.1, .int .i64 x.2.1, .int .i64 x.2.2.1, .int .i64 x.2.2.2] 37 (0, 0)) := by show (W.heap.push _)[W.heap.size]? = _; simp
  have h2 := (Below.heap_alloc (W.alloc (.cells #[.int .i64 x.1, .int .i64 x.2.1, .int .i64 x.2.2.1, .int .i64 x.2.2.2] 37)) o W.heap.size (by simp)).trans h1
  unfold World.cell?
  rw [h2]
  show (#[Value.int .i64 x.1, .int .i64 x.2.1, .int .i64 x.2.2.1, .int .i64 x.2.2.2] : Array Value)[c]? = _
  rw [List.getElem?_toArray]
  rfl
theorem zeros4 (n : Nat) : (Builtin.zeroCells (Value.agg #[.int .i64 0, .int .i64 0, .int .i64 0, .int .i64 0]).cells n).toList = fl4 (List.replicate n (0, 0, 0, 0)) := by
  apply List.ext_getElem
  · rw [fl4_len]; simp [Builtin.zeroCells, Value.cells]
  · intro i h1 h2
    have h3 : i < n * 4 := by rw [fl4_len] at h2; simpa using h2
    have h4 := fl4_get (List.replicate n ((0, 0, 0, 0) : Rc)) (i / 4) (i % 4) (by simp; omega) (by omega)
    rw [show i / 4 * 4 + i % 4 = i by omega, List.getElem?_eq_getElem h2] at h4
    rw [List.getElem_replicate] at h4
    have h5 : i % 4 = 0 ∨ i % 4 = 1 ∨ i % 4 = 2 ∨ i % 4 = 3 := by omega
    rcases h5 with h5 | h5 | h5 | h5 <;> rw [h5] at h4 <;> simp [encR] at h4 <;> simp [Builtin.zeroCells, Value.cells, h5, h4]
theorem clear_run {g : Nat} {w W : World} {tail : List Value} {dk : List Rc} (h : Lies g w tail dk W) {i : Nat} (hi : i < dk.length) (ty c : Nat) :
    (Builtin.clear_ #[38] ty #[.slice (some ⟨g, i * 4, none⟩) (dk.length - i) c]).run Try.prog W = .ok (.tuple #[]) (W.setRow g (fl4 (dk.take i ++ List.replicate (dk.length - i) (0, 0, 0, 0)) ++ tail).toArray) := by
  have hl := fl4_len dk
  have hz := fl4_len (List.replicate (dk.length - i) ((0, 0, 0, 0) : Rc))
  rw [List.length_replicate] at hz
  have hsplit : fl4 dk = fl4 (dk.take i) ++ fl4 (dk.drop i) := by rw [← fl4_append, List.take_append_drop]
  have hti : (fl4 (dk.take i)).length = i * 4 := by rw [fl4_len, List.length_take, Nat.min_eq_left (by omega)]
  have hdi : (fl4 (dk.drop i)).length = (dk.length - i) * 4 := by rw [fl4_len, List.length_drop]
  have hst := run_storeCells_at (P := Try.prog) g (i * 4) 37 (fl4 (List.replicate (dk.length - i) (0, 0, 0, 0))) 0 _ W h.1 (by
    rw [hz]; simp; omega) (by
    intro v hv
    simp only [fl4, List.map_replicate, List.mem_flatten] at hv
    obtain ⟨l, h1, h2⟩ := hv
    rw [List.eq_of_mem_replicate h1] at h2
    simp [encR] at h2
    rw [h2]; rfl)
  simp only [Nat.add_zero] at hst
  have hcur : ((fl4 dk ++ tail).toArray.toList.take (i * 4) ++ fl4 (List.replicate (dk.length - i) (0, 0, 0, 0)) ++ (fl4 dk ++ tail).toArray.toList.drop (i * 4 + (fl4 (List.replicate (dk.length - i) (0, 0, 0, 0))).length)) = fl4 (dk.take i ++ List.replicate (dk.length - i) (0, 0, 0, 0)) ++ tail := by
    rw [fl4_append, hz]
    have e1 : i * 4 + (dk.length - i) * 4 = dk.length * 4 := by omega
    rw [e1]
    have e2 : (fl4 dk ++ tail).toArray.toList.take (i * 4) = fl4 (dk.take i) := by
      rw [hsplit, List.append_assoc]
      show (fl4 (dk.take i) ++ _).take (i * 4) = _
      rw [← hti, List.take_left']
      rfl
    have e3 : (fl4 dk ++ tail).toArray.toList.drop (dk.length * 4) = tail := by
      show (fl4 dk ++ tail).drop (dk.length * 4) = _
      rw [← hl, List.drop_left']
      rfl
    rw [e2, e3]
  rw [hcur] at hst
  obtain ⟨m, hm⟩ : ∃ m, dk.length - i = m + 1 := ⟨dk.length - i - 1, by omega⟩
  have hz4 := zeros4 (dk.length - i)
  rw [hm] at hst hz4 ⊢
  simp only [Builtin.clear_]
  simp [run_underlying Try.underlying38, Try.zeroValue37, hz4, hst]
theorem Lies.cleared {g : Nat} {w W : World} {tail : List Value} {dk dk' : List Rc} (h : Lies g w tail dk W) : Lies g w tail dk' (W.setRow g (fl4 dk' ++ tail).toArray) :=
  ⟨setRow_heap W g _ _ 37 (0, 0) h.1, h.2.os, h.2.tape, h.2.output, by have := h.2.size; simpa [World.setRow] using this, fun k hlt hne => (setRow_other W g k _ (fun e => hne (by rw [e]))).trans (h.2.block k hlt hne)⟩
set_option maxHeartbeats 4000000 in
theorem del_run (g cap : Nat) (d : List Rc) (tail : List Value) (w : World) (h0 : Lies g w tail d w) (hn : d.length ≤ cap) (hcap : cap ≤ maxLen) :
    Calls Try.prog 55 #[.slice (some ⟨g, 0, none⟩) d.length cap, .func (.func 45) #[] #[]] w fun e w' => e = .returned (.slice (some ⟨g, 0, none⟩) (d.filter fun x => !emptyR x).length cap) ∧ ∃ dk, dk.length = d.length ∧ Lies g w tail dk w' ∧ dk.take (d.filter fun x => !emptyR x).length = d.filter fun x => !emptyR x := by
  have hm : maxLen ≤ 9223372036854775807 := by unfold maxLen; omega
  have hgl : g < w.heap.size := (Array.getElem?_eq_some_iff.1 h0.1).1
  have hIF := AnyQ.slices_IndexFunc Try.laysIdx 4 Try.isAgg37 Try.sizeOf37 encR (fun _ => rfl) emptyR 45 #[] (enters_of Try.func45 (by kernel_rfl) rfl) g 0 d.length cap d w (predR w) (Nat.le_refl _) (by omega) hgl (fun j hj i v hi => by
    have hi4 : i < 4 := by have := (List.getElem?_eq_some_iff.1 hi).1; simpa [encR] using this
    have := h0.cell hj hi4
    rw [Nat.zero_add, this, ← hi]
    rw [getElem!_pos d j hj])
  change Calls Try.prog 65 _ _ _ at hIF
  rw [List.take_length] at hIF
  have hlies : ∀ w' : World, Below w.heap.size w w' → Lies g w tail d w' := fun w' hb => ⟨(hb.block g hgl).trans h0.1, ⟨hb.os, hb.tape, hb.output, hb.size, fun k hk _ => hb.block k hk⟩⟩
  rcases idxByFrom_spec (fun _ y => emptyR y) default d 0 with ⟨e1, hall⟩ | ⟨k0, hk0, e1, ht, hall⟩
  · have e2 : Lib.idxBy (fun _ y => emptyR y) d default = -1 := e1
    rw [e2] at hIF
    have hfil : d.filter (fun x => !emptyR x) = d := List.filter_eq_self.2 fun x hx => by
      obtain ⟨j, hj, rfl⟩ := List.getElem_of_mem hx
      have := hall j hj
      rw [getElem!_pos d j hj] at this
      rw [this]; rfl
    go_enter Try.func55, Try.ntmps55
    go_wp2_with (go_at_call 65; refine hIF.mono ?_; rintro e w' ⟨rfl, hb'⟩)
    go_ret
    rw [hfil]
    exact ⟨rfl, d, rfl, hlies _ hb', by rw [List.take_length]⟩
  · have e2 : Lib.idxBy (fun _ y => emptyR y) d default = (k0 : Int) := by unfold Lib.idxBy; rw [e1]; simp
    rw [e2] at hIF
    have hne1 : ((k0 : Int) == -1) = false := beq_eq_false_iff_ne.2 (by omega)
    have hk0d : emptyR (d[k0]'hk0) = true := by rw [getElem!_pos d k0 hk0] at ht; exact ht
    have hpre : (d.take k0).filter (fun x => !emptyR x) = d.take k0 := List.filter_eq_self.2 fun x hx => by
      obtain ⟨j, hj, rfl⟩ := List.getElem_of_mem hx
      have hj' : j < k0 := by rw [List.length_take] at hj; omega
      have := hall j hj'
      rw [getElem!_pos d j (by omega)] at this
      rw [List.getElem_take, this]; rfl
    go_enter Try.func55, Try.ntmps55
    go_wp2_with (go_at_call 65; refine hIF.mono ?_; rintro e w' ⟨rfl, hb'⟩)
    go_loopg [5, 6, 7] d.length (fun gg s5 s6 _ wr => ∃ (i j : Nat) (dk : List Rc), s5 = .int .i64 i ∧ s6 = .int .i64 j ∧ j ≤ d.length ∧ d.length - j ≤ gg ∧ Aside (Lies g w tail dk wr ∧ dk.length = d.length ∧ i < j ∧ dk.take i = (d.take j).filter (fun x => !emptyR x) ∧ dk.drop j = d.drop j))
    case atStart =>
      refine ⟨k0, k0 + 1, d, rfl, by go_num, by omega, by omega, ⟨hlies _ hb', rfl, by omega, ?_, rfl⟩⟩
      rw [List.take_succ_eq_append_getElem hk0, List.filter_append, hpre]
      simp [hk0d]
    case round =>
      obtain ⟨i, j, dk, rfl, rfl, hjd, hgg, A⟩ := hrel
      by_cases hlt : j < d.length
      · have hltz : (j : Int) < (d.length : Int) := by omega
        obtain ⟨L, hl, hij, hi, hj⟩ := A.out
        have hjk : j < dk.length := by omega
        have hik : i < dk.length := by omega
        have hdj : dk[j]'hjk = d[j]'hlt := by
          have h1 : (dk.drop j)[0]? = (d.drop j)[0]? := by rw [hj]
          rw [List.getElem?_drop, List.getElem?_drop, Nat.add_zero, List.getElem?_eq_getElem hjk, List.getElem?_eq_getElem hlt] at h1
          exact Option.some.inj h1
        have c0 := L.cell hjk (show 0 < 4 by omega)
        have c1 := L.cell hjk (show 1 < 4 by omega)
        have c2 := L.cell hjk (show 2 < 4 by omega)
        have c3 := L.cell hjk (show 3 < 4 by omega)
        have o0 := L.cell hik (show 0 < 4 by omega)
        have o1 := L.cell hik (show 1 < 4 by omega)
        have o2 := L.cell hik (show 2 < 4 by omega)
        have o3 := L.cell hik (show 3 < 4 by omega)
        rw [hdj] at c0 c1 c2 c3
        obtain ⟨x, hx⟩ : ∃ x, d[j]'hlt = x := ⟨_, rfl⟩
        obtain ⟨y, hy⟩ : ∃ y, dk[i]'hik = y := ⟨_, rfl⟩
        rw [hx] at c0 c1 c2 c3
        rw [hy] at o0 o1 o2 o3
        simp only [encR, Nat.add_zero, List.getElem?_cons_zero, List.getElem?_cons_succ] at c0 c1 c2 c3 o0 o1 o2 o3
        have hcall := fun W => empty_run x W
        have HX : Aside (d[j]'hlt = x) := hx
        clear hx hy hdj
        cases hq : emptyR x with
        | false =>
          rw [hq] at hcall
          go_wp2_with (go_at_call 45; refine (hcall _).mono ?_; rintro e w' ⟨rfl, rfl⟩; have LA : Aside (Lies g w tail dk ((wr.alloc (.cells #[.int .i64 x.1, .int .i64 x.2.1, .int .i64 x.2.2.1, .int .i64 x.2.2.2] 37)).alloc (.cells #[.int .i64 x.1, .int .i64 x.2.1, .int .i64 x.2.2.1, .int .i64 x.2.2.2] 37))) := (A.out.1.alloc _).alloc _; have v0 : ((wr.alloc (.cells #[.int .i64 x.1, .int .i64 x.2.1, .int .i64 x.2.2.1, .int .i64 x.2.2.2] 37)).alloc (.cells #[.int .i64 x.1, .int .i64 x.2.1, .int .i64 x.2.2.1, .int .i64 x.2.2.2] 37)).cell? ⟨wr.heap.size, 0, none⟩ = some (.int .i64 x.1) := vcell wr x _ (show 0 < 4 by omega); have v1 : ((wr.alloc (.cells #[.int .i64 x.1, .int .i64 x.2.1, .int .i64 x.2.2.1, .int .i64 x.2.2.2] 37)).alloc (.cells #[.int .i64 x.1, .int .i64 x.2.1, .int .i64 x.2.2.1, .int .i64 x.2.2.2] 37)).cell? ⟨wr.heap.size, 1, none⟩ = some (.int .i64 x.2.1) := vcell wr x _ (show 1 < 4 by omega); have v2 : ((wr.alloc (.cells #[.int .i64 x.1, .int .i64 x.2.1, .int .i64 x.2.2.1, .int .i64 x.2.2.2] 37)).alloc (.cells #[.int .i64 x.1, .int .i64 x.2.1, .int .i64 x.2.2.1, .int .i64 x.2.2.2] 37)).cell? ⟨wr.heap.size, 2, none⟩ = some (.int .i64 x.2.2.1) := vcell wr x _ (show 2 < 4 by omega); have v3 : ((wr.alloc (.cells #[.int .i64 x.1, .int .i64 x.2.1, .int .i64 x.2.2.1, .int .i64 x.2.2.2] 37)).alloc (.cells #[.int .i64 x.1, .int .i64 x.2.1, .int .i64 x.2.2.1, .int .i64 x.2.2.2] 37)).cell? ⟨wr.heap.size, 3, none⟩ = some (.int .i64 x.2.2.2) := vcell wr x _ (show 3 < 4 by omega); generalize (wr.alloc (.cells #[.int .i64 x.1, .int .i64 x.2.1, .int .i64 x.2.2.1, .int .i64 x.2.2.2] 37)).alloc (.cells #[.int .i64 x.1, .int .i64 x.2.1, .int .i64 x.2.2.1, .int .i64 x.2.2.2] 37) = WA at LA v0 v1 v2 v3 ⊢; have p0 : WA.cell? ⟨g, i * 4, none⟩ = some (.int .i64 (dk[i]'hik).1) := LA.out.cell hik (show 0 < 4 by omega); have p1 : WA.cell? ⟨g, i * 4 + 1, none⟩ = some (.int .i64 (dk[i]'hik).2.1) := LA.out.cell hik (show 1 < 4 by omega); have p2 : WA.cell? ⟨g, i * 4 + 2, none⟩ = some (.int .i64 (dk[i]'hik).2.2.1) := LA.out.cell hik (show 2 < 4 by omega); have p3 : WA.cell? ⟨g, i * 4 + 3, none⟩ = some (.int .i64 (dk[i]'hik).2.2.2) := LA.out.cell hik (show 3 < 4 by omega); have f0 := LA.out.frozen (i * 4); have f1 := LA.out.frozen (i * 4 + 1); have f2 := LA.out.frozen (i * 4 + 2); have f3 := LA.out.frozen (i * 4 + 3))
          go_roundg (d.length - (j + 1))
          case measure => omega
          case rel =>
            obtain ⟨_, hl, hij, hi, hj⟩ := A.out
            refine ⟨i + 1, j + 1, dk.set i x, by go_num, by go_num, by omega, Nat.le_refl _, ⟨LA.out.set hik x, by simp [hl], by omega, ?_, ?_⟩⟩
            · rw [List.take_succ_eq_append_getElem (by simpa using hik), List.take_set_of_le (Nat.le_refl _), hi, List.take_succ_eq_append_getElem hlt, List.filter_append]
              simp [HX.out, hq]
            · rw [List.drop_set_of_lt (by omega), ← List.drop_drop (i := 1) (j := j), ← List.drop_drop (i := 1) (j := j), hj]
        | true =>
          rw [hq] at hcall
          go_wp2_with (go_at_call 45; refine (hcall _).mono ?_; rintro e w' ⟨rfl, rfl⟩)
          go_roundg (d.length - (j + 1))
          case measure => omega
          case rel =>
            obtain ⟨L, hl, hij, hi, hj⟩ := A.out
            refine ⟨i, j + 1, dk, rfl, by go_num, by omega, Nat.le_refl _, ⟨(L.alloc _).alloc _, hl, by omega, ?_, ?_⟩⟩
            · rw [hi, List.take_succ_eq_append_getElem hlt, List.filter_append]
              simp [HX.out, hq]
            · rw [← List.drop_drop (i := 1) (j := j), ← List.drop_drop (i := 1) (j := j), hj]
      · obtain rfl : j = d.length := by omega
        have hltz : ¬ (d.length : Int) < (d.length : Int) := by omega
        obtain ⟨L, hl, hij, hi, _⟩ := A.out
        have hile : i ≤ d.length := by omega
        have hilc : i ≤ cap := by omega
        have hne : ¬ cap = i := by omega
        have hcl : ∀ ty, (Builtin.clear_ #[38] ty #[.slice (some ⟨g, i * 4, none⟩) (d.length - i) (cap - i)]).run Try.prog wr = .ok (.tuple #[]) (wr.setRow g (fl4 (dk.take i ++ List.replicate (dk.length - i) (0, 0, 0, 0)) ++ tail).toArray) := fun ty => by
          have := clear_run L (show i < dk.length by omega) ty (cap - i)
          rwa [hl] at this ⊢
        have HL : Aside _ := L.cleared (dk' := dk.take i ++ List.replicate (dk.length - i) (0, 0, 0, 0))
        have HI : Aside (dk.take i = (d.take d.length).filter (fun x => !emptyR x)) := hi
        have HN : Aside (dk.length = d.length) := hl
        clear L hi hl
        go_wp2
        go_ret
        have hfi := HI.out
        rw [List.take_length] at hfi
        have hlen : (d.filter fun x => !emptyR x).length = i := by
          rw [← hfi, List.length_take, HN.out]; omega
        rw [hlen]
        refine ⟨by simp, _, ?_, HL.out, ?_⟩
        · have := HN.out; simp; omega
        · rw [List.take_append_of_le_length (by rw [List.length_take]; have := HN.out; omega), List.take_take, Nat.min_self, hfi]
/-! as the executor asks it -/
theorem rows_r {w : World} {S : Nat → Prop} : ∀ {zs : List Rc} {vals : List (List Value)}, RepRows w S 4 (zs.map rwR.en) vals → vals = zs.map encR
  | [], [], _ => rfl
  | z :: zs, v :: vs, h => by
    have h1 := h.1.2
    have e : v = encR z := by
      match v, h1 with
      | [u1, u2, u3, u4], h1 => have a := h1.1; have b := h1.2.1; have c := h1.2.2.1; have d := h1.2.2.2.1; cases a; cases b; cases c; cases d; rfl
    rw [e, rows_r h.2]; rfl
  | [], _ :: _, h => h.elim
  | _ :: _, [], h => h.elim
theorem r_rows {w : World} {S : Nat → Prop} : ∀ (zs : List Rc), RepRows w S 4 (zs.map rwR.en) (zs.map encR)
  | [] => trivial
  | z :: zs => ⟨⟨rfl, .int z.1, .int z.2.1, .int z.2.2.1, .int z.2.2.2, trivial⟩, r_rows zs⟩
def dfApp : App := fun ps => match ps with
  | [.lst _ rows] => (mapO rwR.de rows).bind fun zs => some [.lst 4 ((zs.filter fun x => !emptyR x).map rwR.en)]
  | _ => none
def xdf (l : List Rc) : Option (List Rc) := some (l.filter fun x => !emptyR x)
theorem xdf_ap (et sz : Nat) (l : List Rc) : dfApp [.lst sz (l.map rwR.en)] = (xdf l).map (rwL et 4 rwR rfl).en := by
  unfold dfApp xdf
  simp only [show mapO rwR.de (l.map rwR.en) = some l from mapO_en rwR l, Option.bind_some]
  rfl
theorem del_none (w : World) : Calls Try.prog 55 #[.slice none 0 0, .func (.func 45) #[] #[]] w fun e w' => e = .returned (.slice none 0 0) ∧ Below w.heap.size w w' := by
  have hIF : Calls Try.prog 65 #[.slice none 0 0, .func (.func 45) #[] #[]] w fun e w' => e = .returned (.int .i64 (-1)) ∧ w' = w := by
    go_enter Try.func65, Try.ntmps65
    go_wp2
    go_loopg [5, 8] 1 (fun gg _ s8 wr => s8 = .int .i64 0 ∧ wr = w)
    case atStart => exact ⟨rfl, rfl⟩
    case round =>
      obtain ⟨rfl, rfl⟩ := hrel
      go_wp2
      go_ret
      exact ⟨rfl, rfl⟩
  go_enter Try.func55, Try.ntmps55
  go_wp2_with (go_at_call 65; refine hIF.mono ?_; rintro e w' ⟨rfl, rfl⟩)
  go_ret
  exact ⟨rfl, Below.refl _ _⟩
theorem del_ok {F : FnE} (hF : F 1000007 = dfApp) : M2Ok Try.prog F 55 1000007 37 4 [45] := by
  refine ⟨enters_of Try.func55 (by kernel_rfl) rfl, by decide, fun sz0 rows r h => ?_⟩
  rw [hF] at h
  simp only [dfApp, Option.bind_eq_some_iff, Option.some.injEq] at h
  obtain ⟨zs, hz, rfl⟩ := h
  have hrows : rows = zs.map rwR.en := mapO_de rwR rows zs hz
  subst hrows
  refine ⟨_, rfl, fun w S base v vals hS hnS hrr hown hbase => ?_⟩
  have hv := rows_r hrr
  subst hv
  rw [List.length_map] at hown
  rcases hown.2 with ⟨rfl, h0⟩ | ⟨g, cap, cur, rfl, hbg, hg, hnc, hcm, hcs, htake⟩
  · have hz0 : zs = [] := List.eq_nil_of_length_eq_zero h0
    subst hz0
    refine Calls.mono (del_none w) fun e w' he => ?_
    obtain ⟨rfl, hb⟩ := he
    exact ⟨[], trivial, World.ownsRow_nil _ _ _ _, ⟨hb.os, hb.tape, hb.output, hb.size, fun k hk _ => hb.block k hk⟩, by simp [Value.ownBlock]⟩
  · have hfl : (zs.map encR).flatten = fl4 zs := rfl
    rw [hfl] at htake
    have hL : Lies g w (cur.toList.drop (zs.length * 4)) zs w := by
      refine ⟨?_, rfl, rfl, rfl, Nat.le_refl _, fun _ _ _ => rfl⟩
      rw [← htake, List.take_append_drop, Array.toArray_toList]
      exact hg
    refine Calls.mono (del_run g cap zs _ w hL hnc hcm) fun e w' he => ?_
    obtain ⟨rfl, dk, hdl, hD, htk⟩ := he
    have hfle : (zs.filter fun x => !emptyR x).length ≤ zs.length := List.length_filter_le _ _
    refine ⟨_, r_rows _, ?_, hD.2, fun b hb => .inr hb⟩
    rw [List.length_map]
    refine ⟨by rw [show ((zs.filter fun x => !emptyR x).map encR).flatten = fl4 (zs.filter fun x => !emptyR x) from rfl, fl4_len], .inr ⟨g, cap, _, rfl, hbg, hD.1, by omega, hcm, ?_, ?_⟩⟩
    · have h1 : cur.size = cap * 4 := hcs
      have h2 := Nat.mul_le_mul_right 4 hnc
      simp [fl4_len, hdl]
      omega
    · show (fl4 dk ++ _).take _ = _
      have h3 : fl4 dk = fl4 (zs.filter fun x => !emptyR x) ++ fl4 (dk.drop (zs.filter fun x => !emptyR x).length) := by
        rw [← fl4_append, ← htk]
        congr 1
        rw [List.length_take, Nat.min_eq_left (by rw [hdl]; exact hfle)]
        conv => lhs; rw [← List.take_append_drop (zs.filter fun x => !emptyR x).length dk]
      rw [h3, List.append_assoc]
      exact List.take_left' (fl4_len _)
end Go.Proofs.Ytpicoedbkeljoaa.Hv
