import Derived.Test.YtpicoedbkeljoaaHv2
import Derived.Test.YtpicoedbkeljoaaHv1
import Derived.Test.YtpicoedbkeljoaaProg
import Derived.KernelRfl
import Derived.Shelf.Lay
import Derived.Lib.OwnBridge
import Derived.Lib.SliceRun
import Derived.WalkKit
import Derived.OwnWalk
import Derived.Maps.AppendAt
import Derived.Shelf.Slices.In.Clone
set_option linter.unusedVariables false
set_option linter.unusedSimpArgs false
set_option maxRecDepth 100000
namespace Go.Proofs.Ytpicoedbkeljoaa.Hv
open Go Go.RowKit Go.Shelf Go.Sort Go.Proofs Go.Proofs.Ytpicoedbkeljoaa.Sy
theorem cut_bounds (k s t q : Nat) (hk : k ≤ 100000) : k ≤ (Question.appendCap k s t).cut q ∧ (Question.appendCap k s t).cut q ≤ maxLen := by
  have e : (Question.appendCap k s t).cut q = k + q % (2 ^ 63 - k) := rfl
  rw [e]
  unfold maxLen
  have := Nat.mod_lt q (show 2 ^ 63 - k > 0 by omega)
  exact ⟨by omega, by omega⟩
theorem zc_size (n : Nat) : (Builtin.zeroCells #[Value.int .i64 0, .int .i64 0, .int .i64 0, .int .i64 0] n).size = n * 4 := by simp [Builtin.zeroCells]
set_option maxHeartbeats 2000000 in
theorem grow_run (n : Nat) (hn2 : n ≤ 100000) (w : World) : Calls Try.prog 70 #[.slice none 0 0, .int .i64 (n : Int)] w fun e w' => ∃ v, e = .returned v ∧ w'.ownsRow w.heap.size 37 4 v 0 [] ∧ Below w.heap.size w w' := by
  have hb : Try.t37.bytes = 32 := by kernel_rfl
  have hc := cut_bounds n 0 37 (w.tape w.drawn (Question.appendCap n 0 37)) hn2
  have hz := zc_size n
  have hz2 := zc_size ((Question.appendCap n 0 37).cut (w.tape w.drawn (Question.appendCap n 0 37)) - n)
  have hns : n ≠ 0 → Builtin.nextslicecap n 0 = n := fun h => by unfold Builtin.nextslicecap; rw [if_pos (by omega)]
  go_enter Try.func70, Try.ntmps70
  go_wp2
  all_goals try (exfalso; rw [hb] at *; omega)
  all_goals try (exfalso; rw [hb, hns (by omega)] at *; omega)
  all_goals try (exfalso; omega)
  all_goals go_ret
  · refine ⟨_, rfl, ⟨rfl, .inr ⟨w.heap.size, _, (Builtin.zeroCells #[Value.int .i64 0, .int .i64 0, .int .i64 0, .int .i64 0] n ++ Builtin.zeroCells #[Value.int .i64 0, .int .i64 0, .int .i64 0, .int .i64 0] ((Question.appendCap n 0 37).cut (w.tape w.drawn (Question.appendCap n 0 37)) - n)), rfl, Nat.le_refl _, ?_, Nat.zero_le _, hc.2, ?_, by simp⟩⟩, ((Below.refl _ w).alloc (Nat.le_refl _) _).drew⟩
    · show (w.heap.push _)[w.heap.size]? = some (.cells (Builtin.zeroCells #[Value.int .i64 0, .int .i64 0, .int .i64 0, .int .i64 0] n ++ Builtin.zeroCells #[Value.int .i64 0, .int .i64 0, .int .i64 0, .int .i64 0] ((Question.appendCap n 0 37).cut (w.tape w.drawn (Question.appendCap n 0 37)) - n)) 37 (0, 0))
      simp
    · rw [Array.size_append, hz, hz2]; omega
  · exact ⟨_, rfl, World.ownsRow_nil _ _ _ _, Below.refl _ _⟩
theorem info37 : (Try.prog.info? 37).map (fun i => (i.zero, i.size, i.bytes)) = some (some (.agg #[.int .i64 0, .int .i64 0, .int .i64 0, .int .i64 0]), 4, 32) := by kernel_rfl
/-- A list that is read, as it lies. -/
def Told (w : World) (l : List Rc) (v : Value) : Prop := ∃ ad c, v = .slice ad l.length c ∧ (ad = none → l = [] ∧ c = 0) ∧ ∀ a, ad = some a → ∀ j u, (fl4 l)[j]? = some u → w.cell? (a.add j) = some u
theorem told_src {w wr : World} {l : List Rc} {v : Value} (h : Told w l v) (ho : ∀ a m d, v = .slice (some a) m d → 0 < m → a.block < w.heap.size ∧ a.spot = none) (hb : Below w.heap.size w wr) : Src wr 4 (fun _ => True) (l.map rwR.en) v (l.map encR) := by
  obtain ⟨ad, c, rfl, h1, h2⟩ := h
  refine ⟨r_rows l, ad, c, by rw [List.length_map], fun e => ?_, fun x hx j u hu => ?_⟩
  · obtain ⟨e1, e2⟩ := h1 e
    rw [e1]; exact ⟨rfl, e2⟩
  · have hpos : 0 < l.length := by
      have h3 := (List.getElem?_eq_some_iff.1 hu).1
      rw [show (l.map encR).flatten = fl4 l from rfl, fl4_len] at h3
      omega
    obtain ⟨g1, g2⟩ := ho x _ _ (by rw [hx]) hpos
    obtain ⟨xb, xo, xs⟩ := x
    simp only at g1 g2
    subst g2
    have := h2 _ hx j u hu
    rw [add_zero'] at this ⊢
    exact (hb.cell (p := ⟨xb, xo + j, none⟩) g1).trans this
theorem wpList_app {P : Program} {ops : Array Oper} {rest : List Oper} {o : Oper} {a : Act} {Q : Exit → Act → World → Prop} {w : World} (hgd : o.guard = none) (s x : Operand) (t : TypeId)
    (ho : o.op = .call { callee := .builtin .append, args := #[s, x], argTypes := #[t, t] })
    (base : Nat) (e : TypeId) (i : TypeInfo) (z : Value) (ht : P.underlying t = some (.slice e)) (hi : P.info? e = some i) (hz : i.zero = some z) (hzs : z.cells.size = i.size) (hsz : 0 < i.size)
    (v : Value) (n : Nat) (xs : List Value) (hs : a.eval s = v) (hown : w.ownsRow base e i.size v n xs) (xv : Value) (hx : a.eval x = xv) (S : Nat → Prop) (rows : List (List PD)) (vals : List (List Value)) (hsrc : Src w i.size S rows xv vals)
    (h63 : n + rows.length ≤ maxLen) (hbytes : (n + rows.length) * i.bytes ≤ 140737488355328) (hbase : base ≤ w.heap.size)
    (h : ∀ v' w', w'.ownsRow base e i.size v' (n + rows.length) (xs ++ vals.flatten) → w.grownBy w' v.ownBlock → wpList P ops Q rest (a.put o.dst v') w') : wpList P ops Q (o :: rest) a w := by
  refine wpList_plain hgd fun K hK => ?_
  obtain ⟨v', w', hr, h2, h3, h4⟩ := run_app (P := P) (ty := o.type) ht hi hz hzs hsz hown hsrc h63 hbytes hbase
  unfold Oper.wp execOp
  simp only [ho, resolve, invoke, builtin, Sem.run_bind, Sem.run_pure, Result.andThen_ok, List.map_toArray, List.map_cons, List.map_nil, hs, hx, hr]
  exact hK _ _ (h v' w' h2 h3)
def tot4 (ls : List (List Rc)) : Nat := ls.flatten.length
theorem tot4_take (ls : List (List Rc)) (k : Nat) (h : k < ls.length) : tot4 (ls.take (k + 1)) = tot4 (ls.take k) + (ls[k]'h).length := by
  unfold tot4
  rw [List.take_succ_eq_append_getElem h, List.flatten_append, List.length_append]; simp
theorem tot4_le (ls : List (List Rc)) (k : Nat) : tot4 (ls.take k) ≤ tot4 ls := by
  unfold tot4
  conv => rhs; rw [← List.take_append_drop k ls]
  rw [List.flatten_append, List.length_append]; omega
set_option maxHeartbeats 4000000 in
theorem concat_run (b off c : Nat) (ls : List (List Rc)) (vs : List Value) (w : World) (hlen : vs.length = ls.length) (hb : b < w.heap.size) (hcell : ∀ k (h : k < vs.length), w.cell? ⟨b, off + k, none⟩ = some (vs[k]'h)) (htold : ∀ k (h : k < ls.length) (h' : k < vs.length), Told w (ls[k]'h) (vs[k]'h')) (hbig : tot4 ls ≤ 100000) (hn : ls.length ≤ 100000)
    (hold : ∀ k (h : k < vs.length) a m d, vs[k]'h = .slice (some a) m d → 0 < m → a.block < w.heap.size ∧ a.spot = none) :
    Calls Try.prog 61 #[.slice (some ⟨b, off, none⟩) ls.length c] w fun e w' => ∃ v, e = .returned v ∧ w'.ownsRow w.heap.size 37 4 v (tot4 ls) (fl4 ls.flatten) ∧ Below w.heap.size w w' := by
  obtain ⟨i0, hi, hz0, hz1, hz2⟩ := info_parts info37
  have hgrow := grow_run (tot4 ls) hbig w
  have HT : Aside _ := htold
  have HC : Aside _ := hcell
  have HO : Aside _ := hold
  clear htold hcell hold
  go_enter Try.func61, Try.ntmps61
  go_wp2
  go_loopg [3, 5, 11] ls.length (fun gg s3 _ s11 wr => ∃ k : Nat, s3 = .int .i64 (tot4 (ls.take k) : Nat) ∧ s11 = .int .i64 (k : Nat) ∧ k ≤ ls.length ∧ ls.length - k ≤ gg ∧ w = wr)
  case atStart => exact ⟨0, by simp [tot4], rfl, by omega, by omega, rfl⟩
  case round =>
    obtain ⟨k, rfl, rfl, hk, hgg, rfl⟩ := hrel
    by_cases hlt : k < ls.length
    · have hltz : (k : Int) < (ls.length : Int) := by omega
      have hc0 := HC.out k (by omega)
      obtain ⟨ad, cc, hv, _⟩ := HT.out k hlt (by omega)
      rw [hv] at hc0
      have e1 := tot4_take ls k hlt
      have e2 := tot4_le ls (k + 1)
      generalize (ls[k]'hlt).length = m at hc0 e1
      clear hv
      go_wp2
      go_roundg (ls.length - (k + 1))
      case measure => omega
      case rel => exact ⟨k + 1, by rw [e1]; rfl, by go_num, by omega, Nat.le_refl _, rfl⟩
    · obtain rfl : k = ls.length := by omega
      have hltz : ¬ (ls.length : Int) < (ls.length : Int) := by omega
      rw [List.take_length]
      go_wp2_with (go_at_call 70; refine hgrow.mono ?_; rintro e w' ⟨v0, rfl, hown0, hb0⟩)
      go_loopg [6, 8, 27] ls.length (fun gg s6 _ s27 wr => ∃ (k : Nat) (v : Value), v = s6 ∧ s27 = .int .i64 (k : Nat) ∧ k ≤ ls.length ∧ ls.length - k ≤ gg ∧ Aside (wr.ownsRow w.heap.size 37 4 v (tot4 (ls.take k)) (fl4 (ls.take k).flatten) ∧ Below w.heap.size w wr))
      case atStart => exact ⟨0, v0, rfl, rfl, by omega, by omega, hown0, hb0⟩
      case round =>
        obtain ⟨k, v, rfl, rfl, hk, hgg, A⟩ := hrel
        by_cases hlt : k < ls.length
        · have hltz : (k : Int) < (ls.length : Int) := by omega
          have hc0 := HC.out k (by omega)
          obtain ⟨ad, cc, hv, hnil, hcl⟩ := HT.out k hlt (by omega)
          rw [hv] at hc0
          have hc1 : wr.cell? ⟨b, off + k, none⟩ = some (.slice ad (ls[k]'hlt).length cc) := (A.out.2.cell (p := ⟨b, off + k, none⟩) hb).trans hc0
          have e1 := tot4_take ls k hlt
          have e2 := tot4_le ls (k + 1)
          have e3 : fl4 (ls.take (k + 1)).flatten = fl4 (ls.take k).flatten ++ fl4 (ls[k]'hlt) := by
            rw [List.take_succ_eq_append_getElem hlt, List.flatten_append, fl4_append]; simp
          have HS : Aside _ := told_src (HT.out k hlt (by omega)) (fun a m d e e2 => HO.out k (by omega) a m d e e2) A.out.2
          have HA : Aside _ := A
          rw [← hv] at hc1
          generalize hvk : vs[k]'(by omega) = vk at hc1 HS
          clear hv hnil hcl hc0 hvk A
          go_wp2_with (at_builtin; refine wpList_app rfl _ _ 38 rfl w.heap.size 37 i0 (.agg #[.int .i64 0, .int .i64 0, .int .i64 0, .int .i64 0]) Try.underlying38 hi hz0 (by rw [hz1]; rfl) (by omega) _ _ _ rfl (by rw [hz1]; exact HA.out.1) _ rfl (fun _ => True) ((ls[k]'hlt).map rwR.en) ((ls[k]'hlt).map encR) (by rw [hz1]; exact HS.out) (by rw [List.length_map]; unfold maxLen; omega) (by rw [List.length_map, hz2]; omega) HA.out.2.size ?_; intro v' w1 hown' hgrow'; have HW : Aside _ := And.intro hown' hgrow'; clear hown' hgrow')
          go_roundg (ls.length - (k + 1))
          case measure => omega
          case rel =>
            refine ⟨k + 1, _, rfl, by go_num, by omega, Nat.le_refl _, ?_⟩
            obtain ⟨o1, o2⟩ := HW.out
            rw [hz1, List.length_map] at o1
            rw [e1, e3]
            exact ⟨o1, HA.out.2.grown o2 HA.out.2.size fun q hq => (HA.out.1.lt q hq).1⟩
        · obtain rfl : k = ls.length := by omega
          have hltz : ¬ (ls.length : Int) < (ls.length : Int) := by omega
          rw [List.take_length] at A
          go_wp2
          go_ret
          exact ⟨v, rfl, A.out.1, A.out.2⟩
def rwLR : Rw (List Rc) := rwL 37 4 rwR rfl
def ccApp : App := fun ps => match ps with
  | [.lst _ rows] => (mapO rwLR.de rows).bind fun ls => if tot4 ls ≤ 100000 ∧ ls.length ≤ 100000 ∧ 0 < ls.length then some [.lst 4 (ls.flatten.map rwR.en)] else none
  | _ => none
def xcc (l : List (List Rc)) : Option (List Rc) := if tot4 l ≤ 100000 ∧ l.length ≤ 100000 ∧ 0 < l.length then some l.flatten else none
theorem xcc_ap (et sz : Nat) (l : List (List Rc)) : ccApp [.lst 1 (l.map rwLR.en)] = (xcc l).map (rwL et 4 rwR rfl).en := by
  unfold ccApp xcc
  simp only [show mapO rwLR.de (l.map rwLR.en) = some l from mapO_en rwLR l, Option.bind_some]
  split <;> rfl
theorem concat_ok {F : FnE} (hF : F 1000008 = ccApp) : MkOk Try.prog F 61 1000008 37 4 [] 1 := by
  refine ⟨enters_of Try.func61 (by kernel_rfl) rfl, by decide, fun rows r h => ?_⟩
  rw [hF] at h
  simp only [ccApp, Option.bind_eq_some_iff] at h
  obtain ⟨ls, hz, h⟩ := h
  split at h
  case isFalse => cases h
  rename_i hbig
  obtain ⟨hb1, hb2, hb3⟩ := hbig
  cases h
  have hrows : rows = ls.map rwLR.en := mapO_de rwLR rows ls hz
  subst hrows
  refine ⟨_, rfl, fun w S v hS hrep => ?_⟩
  obtain ⟨ad, n, c, rfl⟩ : ∃ ad n c, v = .slice ad n c := by cases hrep; exact ⟨_, _, _, rfl⟩
  obtain ⟨e1, e2, e3, e4, vals, e5, e6⟩ := hrep.list
  have hvl : vals.length = ls.length := by rw [e5.length, List.length_map]
  obtain ⟨b, off, rfl, hSb, hcell⟩ := e6 (by intro e; have := congrArg List.length e; simp at this; rw [this] at hb3; simp at hb3)
  rw [List.length_map] at e1
  subst e1
  have hone : ∀ k (h : k < ls.length), ∃ u, vals[k]? = some [u] ∧ Rep w S (.lst 4 ((ls[k]'h).map rwR.en)) u := fun k h => by
    have h1 : (ls.map rwLR.en)[k]? = some (rwLR.en (ls[k]'h)) := by simp [h]
    obtain ⟨g1, g2⟩ := e5.get h1 (List.getElem?_eq_getElem (by omega))
    have hl1 := (e5.row _ (List.getElem_mem (show k < vals.length by omega))).1
    match hv : vals[k]'(by omega), hl1, g2 with
    | [u], _, g2 => exact ⟨u, by rw [List.getElem?_eq_getElem (by omega), hv], g2.1⟩
  have hvs : ∀ k (h : k < (vals.map fun v => v.headD undef).length) u, vals[k]? = some [u] → (vals.map fun v => v.headD undef)[k]'h = u := fun k h u hu => by
    have h2 : k < vals.length := by simpa using h
    rw [List.getElem?_eq_getElem h2] at hu
    simp [Option.some.inj hu]
  refine Calls.mono (concat_run b off c ls (vals.map fun v => v.headD undef) w (by rw [List.length_map, hvl]) (hS b hSb) (fun k h => ?_) (fun k h h' => ?_) hb1 hb2 (fun k h a m d hv hm => ?_)) fun e w' he => ?_
  · have h2 : k < ls.length := by rw [List.length_map] at h; omega
    obtain ⟨u, hu, _⟩ := hone k h2
    have := hcell k 0 [u] u hu rfl
    rw [Nat.mul_one, Nat.add_zero] at this
    rw [this, hvs k h u hu]
  · obtain ⟨u, hu, hr⟩ := hone k h
    rw [hvs k h' u hu]
    obtain ⟨ad', n', c', rfl⟩ : ∃ ad n c, u = .slice ad n c := by cases hr; exact ⟨_, _, _, rfl⟩
    obtain ⟨q1, q2, q3, vals', q5, q6, q7⟩ := rep_flat (by decide) hr
    have q8 := rows_r q5
    subst q8
    rw [List.length_map] at q1
    subst q1
    obtain ⟨_, _, q9, _⟩ := hr.list
    refine ⟨ad', c', rfl, fun e => ?_, fun a ha j u hj => q7 a ha j u hj⟩
    obtain ⟨p1, p2⟩ := q9 e
    exact ⟨by simpa using p1, p2⟩
  · have h2 : k < ls.length := by rw [List.length_map] at h; omega
    obtain ⟨u, hu, hr⟩ := hone k h2
    rw [hvs k h u hu] at hv
    subst hv
    obtain ⟨q1, _, _, q4, vals', _, q6⟩ := hr.list
    obtain ⟨b2, o2, q7, q8, _⟩ := q6 (by intro e; rw [e] at q1; simp at q1; omega)
    cases q7
    exact ⟨hS b2 q8, rfl⟩
  · obtain ⟨u, rfl, hown, hb⟩ := he
    refine ⟨ls.flatten.map encR, r_rows _, ?_, hb⟩
    rw [List.length_map]
    exact hown
end Go.Proofs.Ytpicoedbkeljoaa.Hv
