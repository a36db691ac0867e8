/- A rectangle's corners as an iterator, and the loop that collects them, walked. -/
import Derived.Test.YtnahjeeochfljaaSyB
import Derived.Test.YtnahjeeochfljaaProg
import Derived.RangeFuncNested
import Derived.RangeFuncCalls
import Derived.RangeFuncLeaves
import Derived.RangeFuncBox
import Derived.Shelf.Abstract
import Derived.Shelf.RegionOpen
import Derived.WalkKit
import Derived.OwnWalkIn
import Derived.TacticsInMore
import Derived.LoopNIn
import Derived.LoopIn
import Derived.Maps.AppendAt
import Derived.KernelRfl
set_option linter.unusedVariables false
set_option linter.unusedSimpArgs false
namespace Go.Proofs.Ytnahjeeochfljaa.Hw
open Go Go.RowKit Go.Shelf Go.Proofs
attribute [local go_sem] Oper.semAt_some
def ptV (x : Int × Int) : Value := .agg #[.int .i64 x.1, .int .i64 x.2]
def crn (a b c d : Int) : List (Int × Int) := [(a, b), (c, b), (c, d), (a, d)]
theorem ix (vs : Array Value) (k : Int) (hk : 0 ≤ k ∧ k < 4) (w : World) : (Instr.index 84 (.agg vs) (.int .i64 k)).run Try.prog w = .ok (.agg (vs.extract (k.toNat * 2) (k.toNat * 2 + 2))) w := by
  simp [Instr.index, Sem.run_bind, run_underlying Try.underlying84, asIntOf, hk.1, hk.2, part, Try.sizeOf25, Try.isAgg25]
set_option maxRecDepth 100000 in
set_option maxHeartbeats 1000000 in
theorem corners1_in (F : Fence) (n : Nat) (h61 : F.fn 61) (hro : F.round = none) (hn : 1 ≤ n) (l Bn n₀ : Nat) (a b c d : Int) (J Jx : List (Int × Int) → World → Prop) (W : World) (hJ : AbidesFrom W.heap.size J)
    (hY : ∀ pre x W, J pre W → pre.length < 4 → YieldAt F (n - 1) Try.prog l #[ptV x] W fun e W' =>
      (e = .returned (.bool true) ∧ J (pre ++ [x]) W' ∧ Below n₀ W W') ∨ (e = .returned (.bool false) ∧ Jx (pre ++ [x]) W'))
    (hBn : W.heap[Bn]? = some (.cells #[Value.int .i64 a, Value.int .i64 b, Value.int .i64 c, Value.int .i64 d] 27 (0, 0))) (h0 : J [] W) :
    CallsIn F n Try.prog 61 #[.func (.yield l) #[] #[], .pointer (some ⟨Bn, 0, none⟩)] W fun e W' => (∃ v, e = .returned v) ∧
      ((∃ ys, ys = crn a b c d ∧ J ys W') ∨ (∃ pre, pre <+: crn a b c d ∧ Jx pre W')) := by
  have c0 : W.cell? ⟨Bn, 0, none⟩ = some (.int .i64 a) := by simp [World.cell?, hBn]
  have c1 : W.cell? ⟨Bn, 1, none⟩ = some (.int .i64 b) := by simp [World.cell?, hBn]
  have c2 : W.cell? ⟨Bn, 2, none⟩ = some (.int .i64 c) := by simp [World.cell?, hBn]
  have c3 : W.cell? ⟨Bn, 3, none⟩ = some (.int .i64 d) := by simp [World.cell?, hBn]
  refine callsIn_of_wp Try.func61 rfl h61 ?_ hro
  simp only [Try.ntmps61, List.size_toArray, List.length_cons, List.length_nil, Nat.reduceAdd, Nat.reduceSub, Array.replicate_succ, Array.replicate_zero, List.push_toArray, List.append_toArray, List.nil_append, List.cons_append]
  gi_wp2
  gi_loopw [26] (fun i wr => ∃ k : Int, i = .int .i64 k ∧ 0 ≤ k ∧ k ≤ 4 ∧ J ((crn a b c d).take k.toNat) wr)
    (fun i wr => match i with | .int _ k => (4 - k).toNat | _ => 0)
  case atStart =>
    exact ⟨0, rfl, by omega, by omega, h0⟩
  case round =>
    obtain ⟨k, rfl, hk0, hk, hJs⟩ := hrel
    have i0 : ∀ w : World, Sem.run Try.prog (Instr.index 84 (Value.agg #[Value.int IntKind.i64 a, Value.int IntKind.i64 b, Value.int IntKind.i64 c, Value.int IntKind.i64 b, Value.int IntKind.i64 c, Value.int IntKind.i64 d, Value.int IntKind.i64 a, Value.int IntKind.i64 d]) (Value.int IntKind.i64 0)) w = .ok (.agg #[.int .i64 a, .int .i64 b]) w := fun w => ix _ 0 (by decide) w
    have i1 : ∀ w : World, Sem.run Try.prog (Instr.index 84 (Value.agg #[Value.int IntKind.i64 a, Value.int IntKind.i64 b, Value.int IntKind.i64 c, Value.int IntKind.i64 b, Value.int IntKind.i64 c, Value.int IntKind.i64 d, Value.int IntKind.i64 a, Value.int IntKind.i64 d]) (Value.int IntKind.i64 1)) w = .ok (.agg #[.int .i64 c, .int .i64 b]) w := fun w => ix _ 1 (by decide) w
    have i2 : ∀ w : World, Sem.run Try.prog (Instr.index 84 (Value.agg #[Value.int IntKind.i64 a, Value.int IntKind.i64 b, Value.int IntKind.i64 c, Value.int IntKind.i64 b, Value.int IntKind.i64 c, Value.int IntKind.i64 d, Value.int IntKind.i64 a, Value.int IntKind.i64 d]) (Value.int IntKind.i64 2)) w = .ok (.agg #[.int .i64 c, .int .i64 d]) w := fun w => ix _ 2 (by decide) w
    have i3 : ∀ w : World, Sem.run Try.prog (Instr.index 84 (Value.agg #[Value.int IntKind.i64 a, Value.int IntKind.i64 b, Value.int IntKind.i64 c, Value.int IntKind.i64 b, Value.int IntKind.i64 c, Value.int IntKind.i64 d, Value.int IntKind.i64 a, Value.int IntKind.i64 d]) (Value.int IntKind.i64 3)) w = .ok (.agg #[.int .i64 a, .int .i64 d]) w := fun w => ix _ 3 (by decide) w
    rcases (by omega : k = 0 ∨ k = 1 ∨ k = 2 ∨ k = 3 ∨ k = 4) with rfl | rfl | rfl | rfl | rfl
    · obtain ⟨fn, tmps, assign, body, hy, hR⟩ := hY ((crn a b c d).take 0) (a, b) (wr.alloc (.cells #[.int .i64 a, .int .i64 b] 25)) (hJ _ _ _ none hJs (World.grownBy_alloc wr _ none) (by simp)) (by simp [crn])
      dsimp only [ptV] at hy
      gi_wp2
      refine hR.mono ?_
      rintro e W3 (⟨rfl, hJ3, hk3⟩ | ⟨rfl, hJx3⟩)
      · gi_wp2
        go_roundw
        case rel => exact ⟨1, rfl, by omega, by omega, hJ3⟩
        case measure => decide
      · gi_wp2
        refine bodyPost_ret (results_none rfl _ _ _) rfl ?_
        exact ⟨⟨_, rfl⟩, .inr ⟨_, List.take_prefix 1 (crn a b c d), hJx3⟩⟩
    · obtain ⟨fn, tmps, assign, body, hy, hR⟩ := hY ((crn a b c d).take 1) (c, b) (wr.alloc (.cells #[.int .i64 c, .int .i64 b] 25)) (hJ _ _ _ none hJs (World.grownBy_alloc wr _ none) (by simp)) (by simp [crn])
      dsimp only [ptV] at hy
      gi_wp2
      refine hR.mono ?_
      rintro e W3 (⟨rfl, hJ3, hk3⟩ | ⟨rfl, hJx3⟩)
      · gi_wp2
        go_roundw
        case rel => exact ⟨2, rfl, by omega, by omega, hJ3⟩
        case measure => decide
      · gi_wp2
        refine bodyPost_ret (results_none rfl _ _ _) rfl ?_
        exact ⟨⟨_, rfl⟩, .inr ⟨_, List.take_prefix 2 (crn a b c d), hJx3⟩⟩
    · obtain ⟨fn, tmps, assign, body, hy, hR⟩ := hY ((crn a b c d).take 2) (c, d) (wr.alloc (.cells #[.int .i64 c, .int .i64 d] 25)) (hJ _ _ _ none hJs (World.grownBy_alloc wr _ none) (by simp)) (by simp [crn])
      dsimp only [ptV] at hy
      gi_wp2
      refine hR.mono ?_
      rintro e W3 (⟨rfl, hJ3, hk3⟩ | ⟨rfl, hJx3⟩)
      · gi_wp2
        go_roundw
        case rel => exact ⟨3, rfl, by omega, by omega, hJ3⟩
        case measure => decide
      · gi_wp2
        refine bodyPost_ret (results_none rfl _ _ _) rfl ?_
        exact ⟨⟨_, rfl⟩, .inr ⟨_, List.take_prefix 3 (crn a b c d), hJx3⟩⟩
    · obtain ⟨fn, tmps, assign, body, hy, hR⟩ := hY ((crn a b c d).take 3) (a, d) (wr.alloc (.cells #[.int .i64 a, .int .i64 d] 25)) (hJ _ _ _ none hJs (World.grownBy_alloc wr _ none) (by simp)) (by simp [crn])
      dsimp only [ptV] at hy
      gi_wp2
      refine hR.mono ?_
      rintro e W3 (⟨rfl, hJ3, hk3⟩ | ⟨rfl, hJx3⟩)
      · gi_wp2
        go_roundw
        case rel => exact ⟨4, rfl, by omega, by omega, hJ3⟩
        case measure => decide
      · gi_wp2
        refine bodyPost_ret (results_none rfl _ _ _) rfl ?_
        exact ⟨⟨_, rfl⟩, .inr ⟨_, List.take_prefix 4 (crn a b c d), hJx3⟩⟩
    · gi_wp2
      go_end0
      exact ⟨⟨_, rfl⟩, .inl ⟨_, rfl, hJs⟩⟩
theorem corners_stops (F : Fence) (n : Nat) (h61 : F.fn 61) (hro : F.round = none) (hn : 1 ≤ n) (Bn n₀ : Nat) (a b c d : Int) (w : World) (hBn : Bn < w.heap.size) (hc : w.heap[Bn]? = some (.cells #[Value.int .i64 a, Value.int .i64 b, Value.int .i64 c, Value.int .i64 d] 27 (0, 0))) :
    SeqStopsK F n Try.prog 61 #[.pointer (some ⟨Bn, 0, none⟩)] (fun x : Int × Int => #[Value.agg #[.int .i64 x.1, .int .i64 x.2]]) (Below n₀) (fun ys => ys = crn a b c d) (fun pre => pre <+: crn a b c d) 4 w := fun l J Jx W hW hJ _ hY h0 =>
  corners1_in F n h61 hro hn l Bn n₀ a b c d J Jx W hJ hY ((hW.block Bn hBn).trans hc) h0
set_option maxHeartbeats 1000000 in
theorem corners_in (F : Fence) (n : Nat) (h60 : F.fn 60) (hro : F.round = none) (a b c d : Int) (w : World) :
    CallsIn F n Try.prog 60 #[.agg #[Value.int .i64 a, Value.int .i64 b, Value.int .i64 c, Value.int .i64 d]] w fun e w' => e = .returned (.func (.func 61) #[] #[.pointer (some ⟨w.heap.size, 0, none⟩)]) ∧ w' = w.alloc (.cells #[Value.int .i64 a, Value.int .i64 b, Value.int .i64 c, Value.int .i64 d] 27) := by
  refine callsIn_of_wp Try.func60 rfl h60 ?_ hro
  simp only [Try.ntmps60, List.size_toArray, List.length_cons, List.length_nil, Nat.reduceAdd, Nat.reduceSub, Array.replicate_succ, Array.replicate_zero, List.push_toArray, List.append_toArray, List.nil_append, List.cons_append]
  gi_wp2
  go_ret
  exact ⟨rfl, rfl⟩
theorem info25 : (Try.prog.info? 25).map (fun i => (i.zero, i.size, i.bytes)) = some (some (.agg #[.int .i64 0, .int .i64 0]), 2, 16) := by kernel_rfl
def ptL (x : Int × Int) : List Value := [.int .i64 x.1, .int .i64 x.2]
def fl (l : List (Int × Int)) : List Value := (l.map ptL).flatten
theorem fl_snoc (l : List (Int × Int)) (x : Int × Int) : fl (l ++ [x]) = fl l ++ ptL x := by simp [fl]
/-- The first corners, as many as are wanted. -/
def wkd (a b c d many : Int) : List (Int × Int) := if many < 1 then [] else (crn a b c d).take many.toNat
theorem fnil (cs : Array Value) (w : World) : (binOp .eql 81 (.func (.func 61) #[] cs) .nilFunc).run Try.prog w = .ok (.bool false) w := by
  have h : ∀ d : Nat, (Op.equalIn (d + 1) 81 (.func (.func 61) #[] cs) .nilFunc).run Try.prog w = .ok false w := fun d => by
    simp [Op.equalIn, run_underlying Try.underlying81]
  simp only [binOp]
  simp [Op.equal, Op.maxDepth, h 9999]
theorem cell_two_new (W : World) (t : TypeId) (x y : Value) : ∀ (j : Nat) (u : Value), [x, y][j]? = some u → (W.alloc (.cells #[x, y] t)).cell? ((⟨W.heap.size, 0, none⟩ : Addr).add j) = some u := by
  intro j u hj
  have hb : (W.alloc (.cells #[x, y] t)).heap[W.heap.size]? = some (.cells #[x, y] t (0, 0)) := World.alloc_heap_new W _
  have key : ∀ k, (W.alloc (.cells #[x, y] t)).cell? ⟨W.heap.size, k, none⟩ = #[x, y][k]? := fun k => by unfold World.cell?; rw [hb]; rfl
  match j, hj with
  | 0, hj => simp at hj; subst hj; exact key 0
  | 1, hj => simp at hj; subst hj; exact key 1
  | j + 2, hj => simp at hj
set_option maxRecDepth 100000 in
set_option maxHeartbeats 4000000 in
theorem walked_in (F : Fence) (n : Nat) (h47 : F.fn 47) (h60 : F.fn 60) (h61 : F.fn 61) (hro : F.round = none) (hn : 3 ≤ n) (a b c d many : Int) (w : World) :
    CallsIn F n Try.prog 47 #[.agg #[Value.int .i64 a, Value.int .i64 b, Value.int .i64 c, Value.int .i64 d], .int .i64 many] w fun e W' => ∃ v, e = .returned v ∧ W'.ownsRow w.heap.size 25 2 v (wkd a b c d many).length (fl (wkd a b c d many)) ∧ Below w.heap.size w W' := by
  have h1 : 1 ≤ n := by omega
  obtain ⟨i0, hi, hz0, hz1, hz2⟩ := info_parts info25
  refine callsIn_of_wp_marks Try.func47 rfl h47 ?_ hro
  simp only [Try.ntmps47, List.size_toArray, List.length_cons, List.length_nil, Nat.reduceAdd, Nat.reduceSub, Array.replicate_succ, Array.replicate_zero, List.push_toArray, List.append_toArray, List.nil_append, List.cons_append]
  have hfn := fnil
  gi_wp2_with (gi_at_call 60; refine (corners_in F (n - 1) h60 hro a b c d _).mono ?_; rintro e w' ⟨rfl, rfl⟩)
  · -- none is wanted
    have hm' : many < 1 := by omega
    refine ⟨_, results_tmp rfl _ _ _, _, rfl, ?_, ((((Below.refl _ w).alloc (Nat.le_refl _) _).alloc (by simp) _).alloc (by simp; omega) _).alloc (by simp; omega) _⟩
    rw [show wkd a b c d many = [] by simp [wkd, hm']]
    exact World.ownsRow_nil _ _ _ _
  · have hm' : 1 ≤ many := by omega
    have bM := (((Boxed.new (w.alloc (.cells #[.int .i64 a, .int .i64 b, .int .i64 c, .int .i64 d] 27)) 3 (.int .i64 many)).alloc (.cells #[.slice none 0 0] 64))).alloc (.cells #[.int .i64 a, .int .i64 b, .int .i64 c, .int .i64 d] 27)
    have bO := (Boxed.new ((w.alloc (.cells #[.int .i64 a, .int .i64 b, .int .i64 c, .int .i64 d] 27)).alloc (.cells #[.int .i64 many] 3)) 64 (.slice none 0 0)).alloc (.cells #[.int .i64 a, .int .i64 b, .int .i64 c, .int .i64 d] 27)
    have bR := World.alloc_heap_new (((w.alloc (.cells #[.int .i64 a, .int .i64 b, .int .i64 c, .int .i64 d] 27)).alloc (.cells #[.int .i64 many] 3)).alloc (.cells #[.slice none 0 0] 64)) (.cells #[.int .i64 a, .int .i64 b, .int .i64 c, .int .i64 d] 27)
    simp only [World.size_alloc] at bM bO bR
    have hB0 : Below w.heap.size w ((((w.alloc (.cells #[.int .i64 a, .int .i64 b, .int .i64 c, .int .i64 d] 27)).alloc (.cells #[.int .i64 many] 3)).alloc (.cells #[.slice none 0 0] 64)).alloc (.cells #[.int .i64 a, .int .i64 b, .int .i64 c, .int .i64 d] 27)) := ((((Below.refl _ w).alloc (Nat.le_refl _) _).alloc (by simp) _).alloc (by simp; omega) _).alloc (by simp; omega) _
    have hsz : ((((w.alloc (.cells #[.int .i64 a, .int .i64 b, .int .i64 c, .int .i64 d] 27)).alloc (.cells #[.int .i64 many] 3)).alloc (.cells #[.slice none 0 0] 64)).alloc (.cells #[.int .i64 a, .int .i64 b, .int .i64 c, .int .i64 d] 27)).heap.size = w.heap.size + 4 := by simp
    obtain ⟨W0, hW0⟩ : ∃ W0, ((((w.alloc (.cells #[.int .i64 a, .int .i64 b, .int .i64 c, .int .i64 d] 27)).alloc (.cells #[.int .i64 many] 3)).alloc (.cells #[.slice none 0 0] 64)).alloc (.cells #[.int .i64 a, .int .i64 b, .int .i64 c, .int .i64 d] 27)) = W0 := ⟨_, rfl⟩
    rw [hW0] at bM bO bR hB0 hsz ⊢
    clear hW0
    have out_of : ∀ (W : World) (v : Value) (pre : List (Int × Int)), W.ownsRow w.heap.size 25 2 v pre.length (fl pre) → pre = wkd a b c d many → W.ownsRow w.heap.size 25 2 v (wkd a b c d many).length (fl (wkd a b c d many)) := fun W v pre h e => by rw [← e]; exact h
    refine wpIn_rangeFunc_ownH hro h1 (gf := 61) (lb := #[.pointer (some ⟨w.heap.size + 1 + 1 + 1, 0, none⟩)]) rfl h61 (enters_of Try.func61 (by kernel_rfl) rfl)
      (corners_stops F (n - 1) h61 hro (by omega) (w.heap.size + 1 + 1 + 1) w.heap.size a b c d W0 (by omega) bR) belowK_t (belowK_b (by omega)) (Below.refl _ _) (fun _ => rfl)
      (fun pre W => (∃ v, Boxed W (w.heap.size + 1 + 1) 64 v ∧ W.ownsRow w.heap.size 25 2 v pre.length (fl pre) ∧ True) ∧ (Boxed W (w.heap.size + 1) 3 (.int .i64 many) ∧ (Below w.heap.size w W ∧ (pre.length : Int) < many)))
      (fun e pre W => e = .exit 0 ∧ ((∃ v, Boxed W (w.heap.size + 1 + 1) 64 v ∧ W.ownsRow w.heap.size 25 2 v pre.length (fl pre) ∧ True) ∧ (Below w.heap.size w W ∧ (pre.length : Int) = many)))
      (OwnFrom.and (Own.from (holdsRow_own w.heap.size (w.heap.size + 1 + 1) 64 25 2 (fun pre => pre.length) (fun pre => fl pre) (fun _ _ => True)) _) (OwnFrom.and (Own.from (boxed_own _ _ _) _) (OwnFrom.and (ownFrom_below (Nat.le_refl _) (by omega)) (ownFrom_pure _ _))))
      (fun e => OwnFrom.and (ownFrom_pure _ (fun _ => e = .exit 0)) (OwnFrom.and (Own.from (holdsRow_own w.heap.size (w.heap.size + 1 + 1) 64 25 2 (fun pre => pre.length) (fun pre => fl pre) (fun _ _ => True)) _) (OwnFrom.and (ownFrom_below (Nat.le_refl _) (by omega)) (ownFrom_pure _ _))))
      ⟨⟨_, bO, World.ownsRow_nil _ _ _ _, trivial⟩, bM, hB0, by simp; omega⟩
      (fun x a' W => ∃ Bx, w.heap.size + 1 + 1 < Bx ∧ W.heap[Bx]? = some (.cells #[.int .i64 x.1, .int .i64 x.2] 25 (0, 0)) ∧ a' = { tmps := #[Value.agg #[Value.int .i64 a, Value.int .i64 b, Value.int .i64 c, Value.int .i64 d], .int .i64 many, .pointer (some ⟨w.heap.size, 0, none⟩), .pointer (some ⟨w.heap.size + 1, 0, none⟩), .slice none 0 0, .pointer (some ⟨w.heap.size + 1 + 1, 0, none⟩), .func (.func 61) #[] #[.pointer (some ⟨w.heap.size + 1 + 1 + 1, 0, none⟩)], .pointer (some ⟨Bx, 0, none⟩), Value.agg #[Value.int .i64 a, Value.int .i64 b, Value.int .i64 c, Value.int .i64 d], .func (.func 61) #[] #[.pointer (some ⟨w.heap.size + 1 + 1 + 1, 0, none⟩)], .func (.func 61) #[] #[.pointer (some ⟨w.heap.size + 1 + 1 + 1, 0, none⟩)], .bool false, .bool false, .int .i64 many, .bool (decide (many < 1)), .bool (decide (many < 1)), .func (.func 61) #[] #[.pointer (some ⟨w.heap.size + 1 + 1 + 1, 0, none⟩)], Value.agg #[.int .i64 x.1, .int .i64 x.2], undef, undef, undef, undef, undef, undef, undef, undef, undef], defers := [] })
      (fun x a' _ X Y row hs hg hr => by
        obtain ⟨Bx, h1, h2, h3⟩ := hs
        refine ⟨Bx, h1, (hg.block Bx (Array.getElem?_eq_some_iff.1 h2).1 fun e => ?_).trans h2, h3⟩
        obtain ⟨_, o, ho, hc⟩ := hr Bx e.symm
        rw [h2] at ho; cases ho; cases hc)
      ?assign ?body ?done ?stop
    case assign =>
      rintro l pre x W K ⟨⟨v, bO1, hrow, _⟩, bM1, hB1, hlt⟩ hK
      gi_wp2
      exact hK _ _ ((KeepsOthers.alloc _ _).from _) ((Below.refl _ W).alloc hB1.size _) ⟨⟨v, bO1.alloc _, hrow.alloc _, trivial⟩, bM1.alloc _, hB1.alloc hB1.size _, hlt⟩ ⟨W.heap.size, bO1.lt, World.alloc_heap_new W _, rfl⟩
    case body =>
      rintro l pre x a' W hl ⟨r, hr⟩ ⟨⟨v, bO1, hrow, _⟩, bM1, hB1, hlt⟩ ⟨Bx, hBx, bX, rfl⟩ hlen
      have cO := bO1.cell
      have cX0 : W.cell? ⟨Bx, 0, none⟩ = some (.int .i64 x.1) := by simp [World.cell?, bX]
      have cX1 : W.cell? ⟨Bx, 1, none⟩ = some (.int .i64 x.2) := by simp [World.cell?, bX]
      have hml : pre.length + 1 ≤ maxLen := by unfold maxLen; omega
      gi_wp2_with (gi_at_builtin; refine wpListIn_append_own _ rfl _ _ 64 rfl w.heap.size 25 i0 (.agg #[.int .i64 0, .int .i64 0]) 2 16 Try.underlying64 hi hz0 hz1 hz2 rfl (by decide) _ _ _ rfl (hrow.alloc _) ⟨W.heap.size, 0, none⟩ 1 1 [.int .i64 x.1, .int .i64 x.2] rfl rfl (cell_two_new _ _ _ _) (by simp [Value.oneCell']) hml (by omega) (by have := hB1.size; simp; omega) ?_; intro v' w1 hown' hgrow _; obtain ⟨g', cap', rfl⟩ := ownsRow_succ hown'; obtain ⟨hv1, hv2, hr2, hk2, hb2⟩ := bO1.appended (by decide) hrow hB1.size (by omega) hown' hgrow; have hc1 := hv1.cell; have hf1 := hv1.frozen; have bM2 := Boxed.other (B' := w.heap.size + 1 + 1) ((bM1.alloc (.cells #[.int .i64 x.1, .int .i64 x.2] 25)).kept hgrow (bM1.not_row (by decide) hrow)) (by omega) (Value.slice (some ⟨g', 0, none⟩) (pre.length + 1) cap'); have cM2 := bM2.cell)
      · exact ⟨hk2.from _, rfl, ⟨_, hv2, by rw [fl_snoc]; simpa [ptL] using hr2, trivial⟩, hB1.trans hb2, by simp; omega⟩
      · exact ⟨hk2.from _, hb2, ⟨_, hv2, by rw [fl_snoc]; simpa [ptL] using hr2, trivial⟩, bM2, hB1.trans hb2, by simp; omega⟩
    case done =>
      rintro D ys W hD rfl ⟨⟨v, bO1, hrow, _⟩, bM1, hB1, hlt⟩ hK
      have cO := bO1.cell
      gi_wp2
      refine ⟨by simp, .inl ⟨_, _, rfl, run_takeDeferred hK, ?_⟩⟩
      refine ⟨_, results_tmp rfl _ _ _, v, rfl, ownsRow_putObj (out_of W v _ hrow ?_) _ hK rfl, hB1.trans (belowK_b (w := w) (Nat.le_refl _) W D _ _ (by omega) hK rfl rfl)⟩
      have h4 : (crn a b c d).length = 4 := rfl
      unfold wkd
      rw [if_neg (by omega), List.take_of_length_le (by omega)]
    case stop =>
      rintro D e pre W hD hpre ⟨rfl, ⟨v, bO1, hrow, _⟩, hB1, hlt⟩ hK
      have cO := bO1.cell
      gi_wp2
      refine ⟨by simp, .inl ⟨_, _, rfl, run_takeDeferred hK, ?_⟩⟩
      refine ⟨_, results_tmp rfl _ _ _, v, rfl, ownsRow_putObj (out_of W v _ hrow ?_) _ hK rfl, hB1.trans (belowK_b (w := w) (Nat.le_refl _) W D _ _ (by omega) hK rfl rfl)⟩
      unfold wkd
      rw [if_neg (by omega), ← hlt, Int.toNat_natCast]
      exact List.prefix_iff_eq_take.1 hpre
/-- .. as the executor asks it. -/
def gatherumlaw04_walked (a0_0 a0_1 a0_2 a0_3 a1 : Int) : Option (List (Int × Int)) := some (wkd a0_0 a0_1 a0_2 a0_3 a1)
end Go.Proofs.Ytnahjeeochfljaa.Hw
