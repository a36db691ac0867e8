/- What the functions of the law PlaceMatrix compute: written by sygen.py from the executor's answers. -/
import Derived.Test.YtnahjeeochfljaaSyB
import Derived.Test.YtnahjeeochfljaaProg
import Derived.KernelRfl
set_option linter.unusedVariables false
set_option linter.unusedSimpArgs false
set_option maxRecDepth 100000
set_option maxHeartbeats 4000000
namespace Go.Proofs.Ytnahjeeochfljaa.XPlaceMatrix
open Go Go.RowKit Go.Proofs Go.Proofs.Ytnahjeeochfljaa.Sy
noncomputable def ty3 : TD := ⟨(TypeDesc.int IntKind.i64), (.int .i64 0), 1, 8⟩
noncomputable def ty4 : TD := ⟨TypeDesc.bool, (.bool false), 1, 1⟩
noncomputable def ty23 : TD := ⟨(TypeDesc.struct #[{ name := "Turn", type := 3, offset := 0, embedded := false, tag := "", pkgPath := "", byteOffset := 0 }, { name := "X", type := 3, offset := 1, embedded := false, tag := "", pkgPath := "", byteOffset := 8 }, { name := "Y", type := 3, offset := 2, embedded := false, tag := "", pkgPath := "", byteOffset := 16 }]), (.agg #[.int .i64 0, .int .i64 0, .int .i64 0]), 3, 24⟩
noncomputable def ty25 : TD := ⟨(TypeDesc.struct #[{ name := "X", type := 3, offset := 0, embedded := false, tag := "", pkgPath := "", byteOffset := 0 }, { name := "Y", type := 3, offset := 1, embedded := false, tag := "", pkgPath := "", byteOffset := 8 }]), (.agg #[.int .i64 0, .int .i64 0]), 2, 16⟩
noncomputable def ty54 : TD := ⟨(TypeDesc.struct #[{ name := "A", type := 3, offset := 0, embedded := false, tag := "", pkgPath := "", byteOffset := 0 }, { name := "B", type := 3, offset := 1, embedded := false, tag := "", pkgPath := "", byteOffset := 8 }, { name := "C", type := 3, offset := 2, embedded := false, tag := "", pkgPath := "", byteOffset := 16 }, { name := "D", type := 3, offset := 3, embedded := false, tag := "", pkgPath := "", byteOffset := 24 }]), (.agg #[.int .i64 0, .int .i64 0, .int .i64 0, .int .i64 0]), 4, 32⟩
noncomputable def ty59 : TD := ⟨(TypeDesc.array 6 3), (.agg #[.int .i64 0, .int .i64 0, .int .i64 0, .int .i64 0, .int .i64 0, .int .i64 0]), 6, 48⟩
noncomputable def tys : List (Nat × TD) := [(3, ty3), (4, ty4), (23, ty23), (25, ty25), (54, ty54), (59, ty59)]
noncomputable def flats : List Nat := [23, 25, 54, 59]
noncomputable def kds : List (Nat × List K4) := [(3, [.i]), (4, [.b]), (23, [.i, .i, .i]), (25, [.i, .i]), (54, [.i, .i, .i, .i]), (59, [.i, .i, .i, .i, .i, .i])]
noncomputable def fns : List (Nat × List S1 × Sh) := [(50, [(.one .i)], (.one (.one .b))), (49, [(.one .i), (.agg [.i, .i])], (.one (.agg [.i, .i]))), (15, [(.agg [.i, .i, .i]), (.agg [.i, .i])], (.one (.agg [.i, .i]))), (19, [(.one .i)], (.one (.agg [.i, .i, .i]))), (21, [(.one .i), (.one .i)], (.one (.agg [.i, .i, .i]))), (14, [], (.one (.one .b))), (43, [(.one .i)], (.one (.agg [.i, .i, .i, .i]))), (41, [(.agg [.i, .i, .i, .i])], (.one (.one .i))), (45, [(.agg [.i, .i, .i])], (.one (.agg [.i, .i, .i, .i, .i, .i]))), (46, [(.agg [.i, .i, .i, .i, .i, .i])], (.tup [(.agg [.i, .i, .i]), (.one .b)])), (9, [(.agg [.i, .i, .i]), (.agg [.i, .i, .i, .i, .i, .i]), (.agg [.i, .i])], (.one (.one .b)))]
noncomputable def env : Env := ⟨tys, eqsOf tys flats flats, kds, fns⟩
noncomputable def rel : List (Nat × RelE) := []
theorem tysOk : TysOk Try.prog tys := (tys_cons (tys_cons (tys_cons (tys_cons (tys_cons (tys_cons tys_nil (t := 59) (td := ty59) Try.underlying59 (by kernel_rfl)) (t := 54) (td := ty54) Try.underlying54 (by kernel_rfl)) (t := 25) (td := ty25) Try.underlying25 (by kernel_rfl)) (t := 23) (td := ty23) Try.underlying23 (by kernel_rfl)) (t := 4) (td := ty4) Try.underlying4 (by kernel_rfl)) (t := 3) (td := ty3) Try.underlying3 (by kernel_rfl))
theorem flatOk : FlatOk Try.prog flats := (flat_cons (flat_cons (flat_cons (flat_cons flat_nil (t := 59) (by kernel_rfl) (by kernel_rfl)) (t := 54) (by kernel_rfl) (by kernel_rfl)) (t := 25) (by kernel_rfl) (by kernel_rfl)) (t := 23) (by kernel_rfl) (by kernel_rfl))
theorem envOk : EnvOk Try.prog env := env_ok tysOk flatOk kds fns
theorem mix : Try.prog.follows .mixedOrders = true := by kernel_rfl
theorem relOk : GoodR Try.prog rel := goodR_nil
theorem relNp : RelNoPt rel := relNoPt_nil
def l0 (K : Nat) : List (Nat × App) := []
theorem gd0 (K : Nat) : Sy.Good Try.prog fns (mkF (l0 K)) := good_nil
def kSl : Ov := ⟨.slice none 0 0, rfl⟩
theorem kSl_eq : Value.slice none 0 0 = kSl.1 := rfl
def kPt : Ov := ⟨.pointer none, rfl⟩
theorem kPt_eq : Value.pointer none = kPt.1 := rfl
/-! ### turn_Mirrors: function 50 -/
noncomputable def turn_Mirrors.body : Code := Try.f50.body.getD .skip
noncomputable def turn_Mirrors.sg : List S1 := [(.one .i)]
noncomputable def turn_Mirrors.sh : Sh := (.one (.one .b))
noncomputable def turn_Mirrors.cf : Cfg := ⟨env, Try.f50.ntmps, Try.f50.results.toList, some turn_Mirrors.sh, rel, [], []⟩
noncomputable def turn_Mirrors.t : Tree := (.ret [(.bo (.not (.eq (.and (.va 0) (.nu 4)) (.nu 0))))])
def turn_Mirrors.ra : Rw (Int) := rwI
def turn_Mirrors.rr : Rw (Bool) := rwB
theorem turn_Mirrors.rr_en (r : Bool) : turn_Mirrors.rr.en r = [.bool r] := rfl
def turn_Mirrors.f (a0 : Int) : Option (Bool) := some (!((Go.bits .and .i64 a0 4) == 0))
def turn_Mirrors.app : App := fun ps => (turn_Mirrors.ra.de ps).bind fun x => (turn_Mirrors.f x).map turn_Mirrors.rr.en
theorem turn_Mirrors.ap (a0 : Int) : turn_Mirrors.app [.int a0] = (turn_Mirrors.f a0).map turn_Mirrors.rr.en := app_ap turn_Mirrors.ra turn_Mirrors.rr (fun x => turn_Mirrors.f x) (a0)
theorem turn_Mirrors.is : FnIs Try.prog 50 (.init turn_Mirrors.sg) turn_Mirrors.t turn_Mirrors.cf := ⟨Try.f50, turn_Mirrors.body, 6000, Try.func50, by kernel_rfl, rfl, rfl, by decide +kernel, by kernel_rfl⟩
theorem turn_Mirrors.den (F : FnE) (K : Nat) (a0 : Int) : Sy.den F K turn_Mirrors.t [] [.int a0] = (turn_Mirrors.f a0).map turn_Mirrors.rr.en := by
  simp (maxSteps := 4000000) only [turn_Mirrors.t, turn_Mirrors.f, turn_Mirrors.rr_en, Sy.den, iterF, pds, PC.pd, E.ev, B.ev, SE.ev, LE.rows, lensEv, K4.oks, K4.ok, kSl_eq, kPt_eq, ov_prop, List.getElem?_cons_zero, List.getElem?_cons_succ, List.getElem?_map, List.cons_append, List.nil_append, List.append_nil, List.take_succ_cons, List.take_zero, List.length_map, Nat.add_zero, Nat.zero_add, Option.bind_some, Option.map_some, Option.map_none, Option.bind_none, bmap, mapb, ite_map, ite_true, Bool.true_and, Bool.and_true, Bool.and_self, decide_true, eq_self, if_true, mxi, mni, Subtype.eta]
theorem turn_Mirrors.ok (F : FnE) (K : Nat) (ps r : List PD) (h : turn_Mirrors.app ps = some r) : Sy.den F K turn_Mirrors.t [] ps = some r := by
  obtain ⟨a, rfl, h2⟩ := app_ok (ra := turn_Mirrors.ra) (rr := turn_Mirrors.rr) (f := fun x => turn_Mirrors.f x) h
  rw [← h2]
  exact turn_Mirrors.den F K a
def l50 (K : Nat) : List (Nat × App) := (50, turn_Mirrors.app) :: l0 K
theorem gd50 (K : Nat) : Sy.Good Try.prog fns (mkF (l50 K)) := good_cons (K := K) turn_Mirrors.is rfl (by kernel_rfl) (by decide +kernel) envOk relOk relNp mix (gd0 K) (turn_Mirrors.ok _ K)
/-! ### turn_Do: function 49 -/
noncomputable def turn_Do.body : Code := Try.f49.body.getD .skip
noncomputable def turn_Do.sg : List S1 := [(.one .i), (.agg [.i, .i])]
noncomputable def turn_Do.sh : Sh := (.one (.agg [.i, .i]))
noncomputable def turn_Do.cf : Cfg := ⟨env, Try.f49.ntmps, Try.f49.results.toList, some turn_Do.sh, rel, [4], [((4, 772, 4), ⟨[], [], [(13, [(0, .i)])], [(4, [(0, .i), (1, .i)])]⟩), ((4, 452, 4), ⟨[], [], [(13, [(0, .i)])], [(4, [(0, .i), (1, .i)])]⟩)]⟩
noncomputable def turn_Do.b1 : Tree := (.ite (.lt (.va 4) (.and (.va 0) (.nu 3))) (.back 0 4 [(.ex (.add (.va 4) (.nu 1))), (.ex (.sub (.nu 0) (.va 6))), (.ex (.va 5))]) (.ret [(.ex (.va 5)), (.ex (.va 6))]))
noncomputable def turn_Do.b0 : Tree := (.ite (.lt (.va 4) (.and (.va 0) (.nu 3))) (.back 0 4 [(.ex (.add (.va 4) (.nu 1))), (.ex (.sub (.nu 0) (.va 6))), (.ex (.va 5))]) (.ret [(.ex (.va 5)), (.ex (.va 6))]))
noncomputable def turn_Do.t : Tree := (.ask 50 [(.ex (.va 0))] [.b] (.ite (.va 3) (.loop [(.ex (.nu 0)), (.ex (.sub (.nu 0) (.va 1))), (.ex (.va 2))] [.i, .i, .i] turn_Do.b0) (.loop [(.ex (.nu 0)), (.ex (.va 1)), (.ex (.va 2))] [.i, .i, .i] turn_Do.b1)))
def turn_Do.ra : Rw (Int × Int × Int) := (rwP rwI (rwP rwI rwI))
def turn_Do.rr : Rw (Int × Int) := (rwP rwI rwI)
theorem turn_Do.rr_en (r : Int × Int) : turn_Do.rr.en r = [.int r.1, .int r.2] := rfl
def turn_Do.l1 (p0 : Int) : Nat → (Int) → (Int) → (Int) → Option (Int × Int)
  | 0, _, _, _ => none
  | k + 1, x0, x1, x2 => (if (decide (x0 < (Go.bits .and .i64 p0 3))) = true then (turn_Do.l1 p0 k (wrap64 (x0 + 1)) (wrap64 (0 - x2)) x1) else some (x1, x2))
def turn_Do.l0 (p0 : Int) : Nat → (Int) → (Int) → (Int) → Option (Int × Int)
  | 0, _, _, _ => none
  | k + 1, x0, x1, x2 => (if (decide (x0 < (Go.bits .and .i64 p0 3))) = true then (turn_Do.l0 p0 k (wrap64 (x0 + 1)) (wrap64 (0 - x2)) x1) else some (x1, x2))
def turn_Do.f (K : Nat) (a0 : Int) (a1_0 : Int) (a1_1 : Int) : Option (Int × Int) := ((turn_Mirrors.f a0).bind fun b0 => (if b0 = true then (turn_Do.l0 a0 K 0 (wrap64 (0 - a1_0)) a1_1) else (turn_Do.l1 a0 K 0 a1_0 a1_1)))
def turn_Do.app (K : Nat) : App := fun ps => (turn_Do.ra.de ps).bind fun x => (turn_Do.f K x.1 x.2.1 x.2.2).map turn_Do.rr.en
theorem turn_Do.ap (K : Nat) (a0 : Int) (a1_0 : Int) (a1_1 : Int) : turn_Do.app K [.int a0, .int a1_0, .int a1_1] = (turn_Do.f K a0 a1_0 a1_1).map turn_Do.rr.en := app_ap turn_Do.ra turn_Do.rr (fun x => turn_Do.f K x.1 x.2.1 x.2.2) (a0, a1_0, a1_1)
theorem turn_Do.is : FnIs Try.prog 49 (.init turn_Do.sg) turn_Do.t turn_Do.cf := ⟨Try.f49, turn_Do.body, 6000, Try.func49, by kernel_rfl, rfl, rfl, by decide +kernel, by kernel_rfl⟩
theorem turn_Do.l1_den (F : FnE) (K : Nat) (h50 : F 50 = turn_Mirrors.app) (Js : List (List PD → Option (List PD))) (p0 : Int) (p1 : Int) (p2 : Int) (p3 : Bool) : ∀ (k : Nat) (x0 : Int) (x1 : Int) (x2 : Int), iterF (fun J ρ' => den F K turn_Do.b1 (J :: Js) ρ') k [.int p0, .int p1, .int p2, .bool p3, .int x0, .int x1, .int x2] = (turn_Do.l1 p0 k x0 x1 x2).map turn_Do.rr.en := by
  intro k
  induction k with
  | zero => intros; rfl
  | succ k ih =>
    intro x0 x1 x2
    show Sy.den F K turn_Do.b1 (iterF (fun J ρ' => Sy.den F K turn_Do.b1 (J :: Js) ρ') k :: Js) [.int p0, .int p1, .int p2, .bool p3, .int x0, .int x1, .int x2] = _
    revert ih
    generalize iterF (fun J ρ' => Sy.den F K turn_Do.b1 (J :: Js) ρ') k = J1
    intro ih
    simp (maxSteps := 4000000) only [turn_Do.b1, turn_Do.l1, turn_Do.rr_en, h50, turn_Mirrors.ap, turn_Mirrors.rr_en, ih, Sy.den, iterF, pds, PC.pd, E.ev, B.ev, SE.ev, LE.rows, lensEv, K4.oks, K4.ok, kSl_eq, kPt_eq, ov_prop, List.getElem?_cons_zero, List.getElem?_cons_succ, List.getElem?_map, List.cons_append, List.nil_append, List.append_nil, List.take_succ_cons, List.take_zero, List.length_map, Nat.add_zero, Nat.zero_add, Option.bind_some, Option.map_some, Option.map_none, Option.bind_none, bmap, mapb, ite_map, ite_true, Bool.true_and, Bool.and_true, Bool.and_self, decide_true, eq_self, if_true, mxi, mni, Subtype.eta]
theorem turn_Do.l0_den (F : FnE) (K : Nat) (h50 : F 50 = turn_Mirrors.app) (Js : List (List PD → Option (List PD))) (p0 : Int) (p1 : Int) (p2 : Int) (p3 : Bool) : ∀ (k : Nat) (x0 : Int) (x1 : Int) (x2 : Int), iterF (fun J ρ' => den F K turn_Do.b0 (J :: Js) ρ') k [.int p0, .int p1, .int p2, .bool p3, .int x0, .int x1, .int x2] = (turn_Do.l0 p0 k x0 x1 x2).map turn_Do.rr.en := by
  intro k
  induction k with
  | zero => intros; rfl
  | succ k ih =>
    intro x0 x1 x2
    show Sy.den F K turn_Do.b0 (iterF (fun J ρ' => Sy.den F K turn_Do.b0 (J :: Js) ρ') k :: Js) [.int p0, .int p1, .int p2, .bool p3, .int x0, .int x1, .int x2] = _
    revert ih
    generalize iterF (fun J ρ' => Sy.den F K turn_Do.b0 (J :: Js) ρ') k = J0
    intro ih
    simp (maxSteps := 4000000) only [turn_Do.b0, turn_Do.l0, turn_Do.rr_en, h50, turn_Mirrors.ap, turn_Mirrors.rr_en, ih, Sy.den, iterF, pds, PC.pd, E.ev, B.ev, SE.ev, LE.rows, lensEv, K4.oks, K4.ok, kSl_eq, kPt_eq, ov_prop, List.getElem?_cons_zero, List.getElem?_cons_succ, List.getElem?_map, List.cons_append, List.nil_append, List.append_nil, List.take_succ_cons, List.take_zero, List.length_map, Nat.add_zero, Nat.zero_add, Option.bind_some, Option.map_some, Option.map_none, Option.bind_none, bmap, mapb, ite_map, ite_true, Bool.true_and, Bool.and_true, Bool.and_self, decide_true, eq_self, if_true, mxi, mni, Subtype.eta]
theorem turn_Do.den (F : FnE) (K : Nat) (h50 : F 50 = turn_Mirrors.app) (a0 : Int) (a1_0 : Int) (a1_1 : Int) : Sy.den F K turn_Do.t [] [.int a0, .int a1_0, .int a1_1] = (turn_Do.f K a0 a1_0 a1_1).map turn_Do.rr.en := by
  simp (maxSteps := 4000000) only [turn_Do.t, turn_Do.f, turn_Do.rr_en, h50, turn_Mirrors.ap, turn_Mirrors.rr_en, turn_Do.l0_den F K h50 [], turn_Do.l1_den F K h50 [], Sy.den, iterF, pds, PC.pd, E.ev, B.ev, SE.ev, LE.rows, lensEv, K4.oks, K4.ok, kSl_eq, kPt_eq, ov_prop, List.getElem?_cons_zero, List.getElem?_cons_succ, List.getElem?_map, List.cons_append, List.nil_append, List.append_nil, List.take_succ_cons, List.take_zero, List.length_map, Nat.add_zero, Nat.zero_add, Option.bind_some, Option.map_some, Option.map_none, Option.bind_none, bmap, mapb, ite_map, ite_true, Bool.true_and, Bool.and_true, Bool.and_self, decide_true, eq_self, if_true, mxi, mni, Subtype.eta]
theorem turn_Do.ok (F : FnE) (K : Nat) (h50 : F 50 = turn_Mirrors.app) (ps r : List PD) (h : turn_Do.app K ps = some r) : Sy.den F K turn_Do.t [] ps = some r := by
  obtain ⟨a, rfl, h2⟩ := app_ok (ra := turn_Do.ra) (rr := turn_Do.rr) (f := fun x => turn_Do.f K x.1 x.2.1 x.2.2) h
  rw [← h2]
  exact turn_Do.den F K h50 (a.1) (a.2.1) (a.2.2)
def l49 (K : Nat) : List (Nat × App) := (49, turn_Do.app K) :: l50 K
theorem gd49 (K : Nat) : Sy.Good Try.prog fns (mkF (l49 K)) := good_cons (K := K) turn_Do.is rfl (by kernel_rfl) (by decide +kernel) envOk relOk relNp mix (gd50 K) (turn_Do.ok _ K rfl)
/-! ### place_Do: function 15 -/
noncomputable def place_Do.body : Code := Try.f15.body.getD .skip
noncomputable def place_Do.sg : List S1 := [(.agg [.i, .i, .i]), (.agg [.i, .i])]
noncomputable def place_Do.sh : Sh := (.one (.agg [.i, .i]))
noncomputable def place_Do.cf : Cfg := ⟨env, Try.f15.ntmps, Try.f15.results.toList, some place_Do.sh, rel, [], []⟩
noncomputable def place_Do.t : Tree := (.ask 49 [(.ex (.va 0)), (.ex (.va 3)), (.ex (.va 4))] [.i, .i] (.ret [(.ex (.add (.va 5) (.va 1))), (.ex (.add (.va 6) (.va 2)))]))
def place_Do.ra : Rw (Int × Int × Int × Int × Int) := (rwP rwI (rwP rwI (rwP rwI (rwP rwI rwI))))
def place_Do.rr : Rw (Int × Int) := (rwP rwI rwI)
theorem place_Do.rr_en (r : Int × Int) : place_Do.rr.en r = [.int r.1, .int r.2] := rfl
def place_Do.f (K : Nat) (a0_0 : Int) (a0_1 : Int) (a0_2 : Int) (a1_0 : Int) (a1_1 : Int) : Option (Int × Int) := ((turn_Do.f K a0_0 a1_0 a1_1).bind fun b0 => some ((wrap64 (b0.1 + a0_1)), (wrap64 (b0.2 + a0_2))))
def place_Do.app (K : Nat) : App := fun ps => (place_Do.ra.de ps).bind fun x => (place_Do.f K x.1 x.2.1 x.2.2.1 x.2.2.2.1 x.2.2.2.2).map place_Do.rr.en
theorem place_Do.ap (K : Nat) (a0_0 : Int) (a0_1 : Int) (a0_2 : Int) (a1_0 : Int) (a1_1 : Int) : place_Do.app K [.int a0_0, .int a0_1, .int a0_2, .int a1_0, .int a1_1] = (place_Do.f K a0_0 a0_1 a0_2 a1_0 a1_1).map place_Do.rr.en := app_ap place_Do.ra place_Do.rr (fun x => place_Do.f K x.1 x.2.1 x.2.2.1 x.2.2.2.1 x.2.2.2.2) (a0_0, a0_1, a0_2, a1_0, a1_1)
theorem place_Do.is : FnIs Try.prog 15 (.init place_Do.sg) place_Do.t place_Do.cf := ⟨Try.f15, place_Do.body, 6000, Try.func15, by kernel_rfl, rfl, rfl, by decide +kernel, by kernel_rfl⟩
theorem place_Do.den (F : FnE) (K : Nat) (h49 : F 49 = turn_Do.app K) (a0_0 : Int) (a0_1 : Int) (a0_2 : Int) (a1_0 : Int) (a1_1 : Int) : Sy.den F K place_Do.t [] [.int a0_0, .int a0_1, .int a0_2, .int a1_0, .int a1_1] = (place_Do.f K a0_0 a0_1 a0_2 a1_0 a1_1).map place_Do.rr.en := by
  simp (maxSteps := 4000000) only [place_Do.t, place_Do.f, place_Do.rr_en, h49, turn_Do.ap, turn_Do.rr_en, Sy.den, iterF, pds, PC.pd, E.ev, B.ev, SE.ev, LE.rows, lensEv, K4.oks, K4.ok, kSl_eq, kPt_eq, ov_prop, List.getElem?_cons_zero, List.getElem?_cons_succ, List.getElem?_map, List.cons_append, List.nil_append, List.append_nil, List.take_succ_cons, List.take_zero, List.length_map, Nat.add_zero, Nat.zero_add, Option.bind_some, Option.map_some, Option.map_none, Option.bind_none, bmap, mapb, ite_map, ite_true, Bool.true_and, Bool.and_true, Bool.and_self, decide_true, eq_self, if_true, mxi, mni, Subtype.eta]
theorem place_Do.ok (F : FnE) (K : Nat) (h49 : F 49 = turn_Do.app K) (ps r : List PD) (h : place_Do.app K ps = some r) : Sy.den F K place_Do.t [] ps = some r := by
  obtain ⟨a, rfl, h2⟩ := app_ok (ra := place_Do.ra) (rr := place_Do.rr) (f := fun x => place_Do.f K x.1 x.2.1 x.2.2.1 x.2.2.2.1 x.2.2.2.2) h
  rw [← h2]
  exact place_Do.den F K h49 (a.1) (a.2.1) (a.2.2.1) (a.2.2.2.1) (a.2.2.2.2)
def l15 (K : Nat) : List (Nat × App) := (15, place_Do.app K) :: l49 K
theorem gd15 (K : Nat) : Sy.Good Try.prog fns (mkF (l15 K)) := good_cons (K := K) place_Do.is rfl (by kernel_rfl) (by decide +kernel) envOk relOk relNp mix (gd49 K) (place_Do.ok _ K rfl)
/-! ### place_FlipX: function 19 -/
noncomputable def place_FlipX.body : Code := Try.f19.body.getD .skip
noncomputable def place_FlipX.sg : List S1 := [(.one .i)]
noncomputable def place_FlipX.sh : Sh := (.one (.agg [.i, .i, .i]))
noncomputable def place_FlipX.cf : Cfg := ⟨env, Try.f19.ntmps, Try.f19.results.toList, some place_FlipX.sh, rel, [], []⟩
noncomputable def place_FlipX.t : Tree := (.ret [(.ex (.nu 4)), (.ex (.va 0)), (.ex (.nu 0))])
def place_FlipX.ra : Rw (Int) := rwI
def place_FlipX.rr : Rw (Int × Int × Int) := (rwP rwI (rwP rwI rwI))
theorem place_FlipX.rr_en (r : Int × Int × Int) : place_FlipX.rr.en r = [.int r.1, .int r.2.1, .int r.2.2] := rfl
def place_FlipX.f (a0 : Int) : Option (Int × Int × Int) := some (4, a0, 0)
def place_FlipX.app : App := fun ps => (place_FlipX.ra.de ps).bind fun x => (place_FlipX.f x).map place_FlipX.rr.en
theorem place_FlipX.ap (a0 : Int) : place_FlipX.app [.int a0] = (place_FlipX.f a0).map place_FlipX.rr.en := app_ap place_FlipX.ra place_FlipX.rr (fun x => place_FlipX.f x) (a0)
theorem place_FlipX.is : FnIs Try.prog 19 (.init place_FlipX.sg) place_FlipX.t place_FlipX.cf := ⟨Try.f19, place_FlipX.body, 6000, Try.func19, by kernel_rfl, rfl, rfl, by decide +kernel, by kernel_rfl⟩
theorem place_FlipX.den (F : FnE) (K : Nat) (a0 : Int) : Sy.den F K place_FlipX.t [] [.int a0] = (place_FlipX.f a0).map place_FlipX.rr.en := by
  simp (maxSteps := 4000000) only [place_FlipX.t, place_FlipX.f, place_FlipX.rr_en, Sy.den, iterF, pds, PC.pd, E.ev, B.ev, SE.ev, LE.rows, lensEv, K4.oks, K4.ok, kSl_eq, kPt_eq, ov_prop, List.getElem?_cons_zero, List.getElem?_cons_succ, List.getElem?_map, List.cons_append, List.nil_append, List.append_nil, List.take_succ_cons, List.take_zero, List.length_map, Nat.add_zero, Nat.zero_add, Option.bind_some, Option.map_some, Option.map_none, Option.bind_none, bmap, mapb, ite_map, ite_true, Bool.true_and, Bool.and_true, Bool.and_self, decide_true, eq_self, if_true, mxi, mni, Subtype.eta]
theorem place_FlipX.ok (F : FnE) (K : Nat) (ps r : List PD) (h : place_FlipX.app ps = some r) : Sy.den F K place_FlipX.t [] ps = some r := by
  obtain ⟨a, rfl, h2⟩ := app_ok (ra := place_FlipX.ra) (rr := place_FlipX.rr) (f := fun x => place_FlipX.f x) h
  rw [← h2]
  exact place_FlipX.den F K a
def l19 (K : Nat) : List (Nat × App) := (19, place_FlipX.app) :: l15 K
theorem gd19 (K : Nat) : Sy.Good Try.prog fns (mkF (l19 K)) := good_cons (K := K) place_FlipX.is rfl (by kernel_rfl) (by decide +kernel) envOk relOk relNp mix (gd15 K) (place_FlipX.ok _ K)
/-! ### place_Move: function 21 -/
noncomputable def place_Move.body : Code := Try.f21.body.getD .skip
noncomputable def place_Move.sg : List S1 := [(.one .i), (.one .i)]
noncomputable def place_Move.sh : Sh := (.one (.agg [.i, .i, .i]))
noncomputable def place_Move.cf : Cfg := ⟨env, Try.f21.ntmps, Try.f21.results.toList, some place_Move.sh, rel, [], []⟩
noncomputable def place_Move.t : Tree := (.ret [(.ex (.nu 0)), (.ex (.va 0)), (.ex (.va 1))])
def place_Move.ra : Rw (Int × Int) := (rwP rwI rwI)
def place_Move.rr : Rw (Int × Int × Int) := (rwP rwI (rwP rwI rwI))
theorem place_Move.rr_en (r : Int × Int × Int) : place_Move.rr.en r = [.int r.1, .int r.2.1, .int r.2.2] := rfl
def place_Move.f (a0 : Int) (a1 : Int) : Option (Int × Int × Int) := some (0, a0, a1)
def place_Move.app : App := fun ps => (place_Move.ra.de ps).bind fun x => (place_Move.f x.1 x.2).map place_Move.rr.en
theorem place_Move.ap (a0 : Int) (a1 : Int) : place_Move.app [.int a0, .int a1] = (place_Move.f a0 a1).map place_Move.rr.en := app_ap place_Move.ra place_Move.rr (fun x => place_Move.f x.1 x.2) (a0, a1)
theorem place_Move.is : FnIs Try.prog 21 (.init place_Move.sg) place_Move.t place_Move.cf := ⟨Try.f21, place_Move.body, 6000, Try.func21, by kernel_rfl, rfl, rfl, by decide +kernel, by kernel_rfl⟩
theorem place_Move.den (F : FnE) (K : Nat) (a0 : Int) (a1 : Int) : Sy.den F K place_Move.t [] [.int a0, .int a1] = (place_Move.f a0 a1).map place_Move.rr.en := by
  simp (maxSteps := 4000000) only [place_Move.t, place_Move.f, place_Move.rr_en, Sy.den, iterF, pds, PC.pd, E.ev, B.ev, SE.ev, LE.rows, lensEv, K4.oks, K4.ok, kSl_eq, kPt_eq, ov_prop, List.getElem?_cons_zero, List.getElem?_cons_succ, List.getElem?_map, List.cons_append, List.nil_append, List.append_nil, List.take_succ_cons, List.take_zero, List.length_map, Nat.add_zero, Nat.zero_add, Option.bind_some, Option.map_some, Option.map_none, Option.bind_none, bmap, mapb, ite_map, ite_true, Bool.true_and, Bool.and_true, Bool.and_self, decide_true, eq_self, if_true, mxi, mni, Subtype.eta]
theorem place_Move.ok (F : FnE) (K : Nat) (ps r : List PD) (h : place_Move.app ps = some r) : Sy.den F K place_Move.t [] ps = some r := by
  obtain ⟨a, rfl, h2⟩ := app_ok (ra := place_Move.ra) (rr := place_Move.rr) (f := fun x => place_Move.f x.1 x.2) h
  rw [← h2]
  exact place_Move.den F K (a.1) (a.2)
def l21 (K : Nat) : List (Nat × App) := (21, place_Move.app) :: l19 K
theorem gd21 (K : Nat) : Sy.Good Try.prog fns (mkF (l21 K)) := good_cons (K := K) place_Move.is rfl (by kernel_rfl) (by decide +kernel) envOk relOk relNp mix (gd19 K) (place_Move.ok _ K)
/-! ### gatherumlaw06_alive: function 14 -/
noncomputable def gatherumlaw06_alive.body : Code := Try.f14.body.getD .skip
noncomputable def gatherumlaw06_alive.sg : List S1 := []
noncomputable def gatherumlaw06_alive.sh : Sh := (.one (.one .b))
noncomputable def gatherumlaw06_alive.cf : Cfg := ⟨env, Try.f14.ntmps, Try.f14.results.toList, some gatherumlaw06_alive.sh, rel, [], []⟩
noncomputable def gatherumlaw06_alive.t : Tree := (.ask 19 [(.ex (.nu 10))] [.i, .i, .i] (.ask 15 [(.ex (.va 0)), (.ex (.va 1)), (.ex (.va 2)), (.ex (.nu 2)), (.ex (.nu 3))] [.i, .i] (.ite (.and (.eq (.va 3) (.nu 8)) (.eq (.va 4) (.nu 3))) (.ask 21 [(.ex (.nu 1)), (.ex (.nu 2))] [.i, .i, .i] (.ret [(.bo (.and (.eq (.va 5) (.nu 0)) (.and (.eq (.va 6) (.nu 1)) (.eq (.va 7) (.nu 2)))))])) (.ret [(.bo (.co false))]))))
def gatherumlaw06_alive.ra : Rw (Unit) := rwU
def gatherumlaw06_alive.rr : Rw (Bool) := rwB
theorem gatherumlaw06_alive.rr_en (r : Bool) : gatherumlaw06_alive.rr.en r = [.bool r] := rfl
def gatherumlaw06_alive.f (K : Nat) : Option (Bool) := ((place_FlipX.f 10).bind fun b0 => ((place_Do.f K b0.1 b0.2.1 b0.2.2 2 3).bind fun b1 => (if ((b1.1 == 8) && (b1.2 == 3)) = true then ((place_Move.f 1 2).bind fun b2 => some ((b2.1 == 0) && ((b2.2.1 == 1) && (b2.2.2 == 2)))) else some false)))
def gatherumlaw06_alive.app (K : Nat) : App := fun ps => (gatherumlaw06_alive.ra.de ps).bind fun x => (gatherumlaw06_alive.f K).map gatherumlaw06_alive.rr.en
theorem gatherumlaw06_alive.ap (K : Nat) : gatherumlaw06_alive.app K [] = (gatherumlaw06_alive.f K).map gatherumlaw06_alive.rr.en := app_ap gatherumlaw06_alive.ra gatherumlaw06_alive.rr (fun x => gatherumlaw06_alive.f K) ()
theorem gatherumlaw06_alive.is : FnIs Try.prog 14 (.init gatherumlaw06_alive.sg) gatherumlaw06_alive.t gatherumlaw06_alive.cf := ⟨Try.f14, gatherumlaw06_alive.body, 6000, Try.func14, by kernel_rfl, rfl, rfl, by decide +kernel, by kernel_rfl⟩
theorem gatherumlaw06_alive.den (F : FnE) (K : Nat) (h15 : F 15 = place_Do.app K) (h19 : F 19 = place_FlipX.app) (h21 : F 21 = place_Move.app) : Sy.den F K gatherumlaw06_alive.t [] [] = (gatherumlaw06_alive.f K).map gatherumlaw06_alive.rr.en := by
  simp (maxSteps := 4000000) only [gatherumlaw06_alive.t, gatherumlaw06_alive.f, gatherumlaw06_alive.rr_en, h15, place_Do.ap, place_Do.rr_en, h19, place_FlipX.ap, place_FlipX.rr_en, h21, place_Move.ap, place_Move.rr_en, Sy.den, iterF, pds, PC.pd, E.ev, B.ev, SE.ev, LE.rows, lensEv, K4.oks, K4.ok, kSl_eq, kPt_eq, ov_prop, List.getElem?_cons_zero, List.getElem?_cons_succ, List.getElem?_map, List.cons_append, List.nil_append, List.append_nil, List.take_succ_cons, List.take_zero, List.length_map, Nat.add_zero, Nat.zero_add, Option.bind_some, Option.map_some, Option.map_none, Option.bind_none, bmap, mapb, ite_map, ite_true, Bool.true_and, Bool.and_true, Bool.and_self, decide_true, eq_self, if_true, mxi, mni, Subtype.eta]
theorem gatherumlaw06_alive.ok (F : FnE) (K : Nat) (h15 : F 15 = place_Do.app K) (h19 : F 19 = place_FlipX.app) (h21 : F 21 = place_Move.app) (ps r : List PD) (h : gatherumlaw06_alive.app K ps = some r) : Sy.den F K gatherumlaw06_alive.t [] ps = some r := by
  obtain ⟨a, rfl, h2⟩ := app_ok (ra := gatherumlaw06_alive.ra) (rr := gatherumlaw06_alive.rr) (f := fun x => gatherumlaw06_alive.f K) h
  rw [← h2]
  exact gatherumlaw06_alive.den F K h15 h19 h21
def l14 (K : Nat) : List (Nat × App) := (14, gatherumlaw06_alive.app K) :: l21 K
theorem gd14 (K : Nat) : Sy.Good Try.prog fns (mkF (l14 K)) := good_cons (K := K) gatherumlaw06_alive.is rfl (by kernel_rfl) (by decide +kernel) envOk relOk relNp mix (gd21 K) (gatherumlaw06_alive.ok _ K rfl rfl rfl)
/-! ### gatherumref03_Of: function 43 -/
noncomputable def gatherumref03_Of.body : Code := Try.f43.body.getD .skip
noncomputable def gatherumref03_Of.sg : List S1 := [(.one .i)]
noncomputable def gatherumref03_Of.sh : Sh := (.one (.agg [.i, .i, .i, .i]))
noncomputable def gatherumref03_Of.cf : Cfg := ⟨env, Try.f43.ntmps, Try.f43.results.toList, some gatherumref03_Of.sh, rel, [6], [((6, 770, 1), ⟨[], [], [(4, [(0, .i)])], [(130, [(0, .i), (1, .i), (2, .i), (3, .i)])]⟩), ((6, 642, 1), ⟨[], [], [(4, [(0, .i)])], [(130, [(0, .i), (1, .i), (2, .i), (3, .i)])]⟩)]⟩
noncomputable def gatherumref03_Of.b1 : Tree := (.ite (.lt (.va 1) (.rem (.and (.va 0) (.nu 7)) (.nu 4))) (.back 0 1 [(.ex (.add (.va 1) (.nu 1))), (.ex (.sub (.nu 0) (.va 3))), (.ex (.va 2)), (.ex (.sub (.nu 0) (.va 5))), (.ex (.va 4))]) (.ret [(.ex (.va 2)), (.ex (.va 3)), (.ex (.va 4)), (.ex (.va 5))]))
noncomputable def gatherumref03_Of.b0 : Tree := (.ite (.lt (.va 1) (.rem (.and (.va 0) (.nu 7)) (.nu 4))) (.back 0 1 [(.ex (.add (.va 1) (.nu 1))), (.ex (.sub (.nu 0) (.va 3))), (.ex (.va 2)), (.ex (.sub (.nu 0) (.va 5))), (.ex (.va 4))]) (.ret [(.ex (.va 2)), (.ex (.va 3)), (.ex (.va 4)), (.ex (.va 5))]))
noncomputable def gatherumref03_Of.t : Tree := (.ite (.le (.nu 4) (.and (.va 0) (.nu 7))) (.loop [(.ex (.nu 0)), (.ex (.nu (-1))), (.ex (.nu 0)), (.ex (.nu 0)), (.ex (.nu 1))] [.i, .i, .i, .i, .i] gatherumref03_Of.b0) (.loop [(.ex (.nu 0)), (.ex (.nu 1)), (.ex (.nu 0)), (.ex (.nu 0)), (.ex (.nu 1))] [.i, .i, .i, .i, .i] gatherumref03_Of.b1))
def gatherumref03_Of.ra : Rw (Int) := rwI
def gatherumref03_Of.rr : Rw (Int × Int × Int × Int) := (rwP rwI (rwP rwI (rwP rwI rwI)))
theorem gatherumref03_Of.rr_en (r : Int × Int × Int × Int) : gatherumref03_Of.rr.en r = [.int r.1, .int r.2.1, .int r.2.2.1, .int r.2.2.2] := rfl
def gatherumref03_Of.l1 (p0 : Int) : Nat → (Int) → (Int) → (Int) → (Int) → (Int) → Option (Int × Int × Int × Int)
  | 0, _, _, _, _, _ => none
  | k + 1, x0, x1, x2, x3, x4 => (if (decide (x0 < (Int.tmod (Go.bits .and .i64 p0 7) 4))) = true then (gatherumref03_Of.l1 p0 k (wrap64 (x0 + 1)) (wrap64 (0 - x2)) x1 (wrap64 (0 - x4)) x3) else some (x1, x2, x3, x4))
def gatherumref03_Of.l0 (p0 : Int) : Nat → (Int) → (Int) → (Int) → (Int) → (Int) → Option (Int × Int × Int × Int)
  | 0, _, _, _, _, _ => none
  | k + 1, x0, x1, x2, x3, x4 => (if (decide (x0 < (Int.tmod (Go.bits .and .i64 p0 7) 4))) = true then (gatherumref03_Of.l0 p0 k (wrap64 (x0 + 1)) (wrap64 (0 - x2)) x1 (wrap64 (0 - x4)) x3) else some (x1, x2, x3, x4))
def gatherumref03_Of.f (K : Nat) (a0 : Int) : Option (Int × Int × Int × Int) := (if (decide (4 ≤ (Go.bits .and .i64 a0 7))) = true then (gatherumref03_Of.l0 a0 K 0 (-1) 0 0 1) else (gatherumref03_Of.l1 a0 K 0 1 0 0 1))
def gatherumref03_Of.app (K : Nat) : App := fun ps => (gatherumref03_Of.ra.de ps).bind fun x => (gatherumref03_Of.f K x).map gatherumref03_Of.rr.en
theorem gatherumref03_Of.ap (K : Nat) (a0 : Int) : gatherumref03_Of.app K [.int a0] = (gatherumref03_Of.f K a0).map gatherumref03_Of.rr.en := app_ap gatherumref03_Of.ra gatherumref03_Of.rr (fun x => gatherumref03_Of.f K x) (a0)
theorem gatherumref03_Of.is : FnIs Try.prog 43 (.init gatherumref03_Of.sg) gatherumref03_Of.t gatherumref03_Of.cf := ⟨Try.f43, gatherumref03_Of.body, 6000, Try.func43, by kernel_rfl, rfl, rfl, by decide +kernel, by kernel_rfl⟩
theorem gatherumref03_Of.l1_den (F : FnE) (K : Nat) (Js : List (List PD → Option (List PD))) (p0 : Int) : ∀ (k : Nat) (x0 : Int) (x1 : Int) (x2 : Int) (x3 : Int) (x4 : Int), iterF (fun J ρ' => den F K gatherumref03_Of.b1 (J :: Js) ρ') k [.int p0, .int x0, .int x1, .int x2, .int x3, .int x4] = (gatherumref03_Of.l1 p0 k x0 x1 x2 x3 x4).map gatherumref03_Of.rr.en := by
  intro k
  induction k with
  | zero => intros; rfl
  | succ k ih =>
    intro x0 x1 x2 x3 x4
    show Sy.den F K gatherumref03_Of.b1 (iterF (fun J ρ' => Sy.den F K gatherumref03_Of.b1 (J :: Js) ρ') k :: Js) [.int p0, .int x0, .int x1, .int x2, .int x3, .int x4] = _
    revert ih
    generalize iterF (fun J ρ' => Sy.den F K gatherumref03_Of.b1 (J :: Js) ρ') k = J1
    intro ih
    simp (maxSteps := 4000000) only [gatherumref03_Of.b1, gatherumref03_Of.l1, gatherumref03_Of.rr_en, ih, Sy.den, iterF, pds, PC.pd, E.ev, B.ev, SE.ev, LE.rows, lensEv, K4.oks, K4.ok, kSl_eq, kPt_eq, ov_prop, List.getElem?_cons_zero, List.getElem?_cons_succ, List.getElem?_map, List.cons_append, List.nil_append, List.append_nil, List.take_succ_cons, List.take_zero, List.length_map, Nat.add_zero, Nat.zero_add, Option.bind_some, Option.map_some, Option.map_none, Option.bind_none, bmap, mapb, ite_map, ite_true, Bool.true_and, Bool.and_true, Bool.and_self, decide_true, eq_self, if_true, mxi, mni, Subtype.eta]
theorem gatherumref03_Of.l0_den (F : FnE) (K : Nat) (Js : List (List PD → Option (List PD))) (p0 : Int) : ∀ (k : Nat) (x0 : Int) (x1 : Int) (x2 : Int) (x3 : Int) (x4 : Int), iterF (fun J ρ' => den F K gatherumref03_Of.b0 (J :: Js) ρ') k [.int p0, .int x0, .int x1, .int x2, .int x3, .int x4] = (gatherumref03_Of.l0 p0 k x0 x1 x2 x3 x4).map gatherumref03_Of.rr.en := by
  intro k
  induction k with
  | zero => intros; rfl
  | succ k ih =>
    intro x0 x1 x2 x3 x4
    show Sy.den F K gatherumref03_Of.b0 (iterF (fun J ρ' => Sy.den F K gatherumref03_Of.b0 (J :: Js) ρ') k :: Js) [.int p0, .int x0, .int x1, .int x2, .int x3, .int x4] = _
    revert ih
    generalize iterF (fun J ρ' => Sy.den F K gatherumref03_Of.b0 (J :: Js) ρ') k = J0
    intro ih
    simp (maxSteps := 4000000) only [gatherumref03_Of.b0, gatherumref03_Of.l0, gatherumref03_Of.rr_en, ih, Sy.den, iterF, pds, PC.pd, E.ev, B.ev, SE.ev, LE.rows, lensEv, K4.oks, K4.ok, kSl_eq, kPt_eq, ov_prop, List.getElem?_cons_zero, List.getElem?_cons_succ, List.getElem?_map, List.cons_append, List.nil_append, List.append_nil, List.take_succ_cons, List.take_zero, List.length_map, Nat.add_zero, Nat.zero_add, Option.bind_some, Option.map_some, Option.map_none, Option.bind_none, bmap, mapb, ite_map, ite_true, Bool.true_and, Bool.and_true, Bool.and_self, decide_true, eq_self, if_true, mxi, mni, Subtype.eta]
theorem gatherumref03_Of.den (F : FnE) (K : Nat) (a0 : Int) : Sy.den F K gatherumref03_Of.t [] [.int a0] = (gatherumref03_Of.f K a0).map gatherumref03_Of.rr.en := by
  simp (maxSteps := 4000000) only [gatherumref03_Of.t, gatherumref03_Of.f, gatherumref03_Of.rr_en, gatherumref03_Of.l0_den F K [], gatherumref03_Of.l1_den F K [], Sy.den, iterF, pds, PC.pd, E.ev, B.ev, SE.ev, LE.rows, lensEv, K4.oks, K4.ok, kSl_eq, kPt_eq, ov_prop, List.getElem?_cons_zero, List.getElem?_cons_succ, List.getElem?_map, List.cons_append, List.nil_append, List.append_nil, List.take_succ_cons, List.take_zero, List.length_map, Nat.add_zero, Nat.zero_add, Option.bind_some, Option.map_some, Option.map_none, Option.bind_none, bmap, mapb, ite_map, ite_true, Bool.true_and, Bool.and_true, Bool.and_self, decide_true, eq_self, if_true, mxi, mni, Subtype.eta]
theorem gatherumref03_Of.ok (F : FnE) (K : Nat) (ps r : List PD) (h : gatherumref03_Of.app K ps = some r) : Sy.den F K gatherumref03_Of.t [] ps = some r := by
  obtain ⟨a, rfl, h2⟩ := app_ok (ra := gatherumref03_Of.ra) (rr := gatherumref03_Of.rr) (f := fun x => gatherumref03_Of.f K x) h
  rw [← h2]
  exact gatherumref03_Of.den F K a
def l43 (K : Nat) : List (Nat × App) := (43, gatherumref03_Of.app K) :: l14 K
theorem gd43 (K : Nat) : Sy.Good Try.prog fns (mkF (l43 K)) := good_cons (K := K) gatherumref03_Of.is rfl (by kernel_rfl) (by decide +kernel) envOk relOk relNp mix (gd14 K) (gatherumref03_Of.ok _ K)
/-! ### gatherumref03_Turn: function 41 -/
noncomputable def gatherumref03_Turn.body : Code := Try.f41.body.getD .skip
noncomputable def gatherumref03_Turn.sg : List S1 := [(.agg [.i, .i, .i, .i])]
noncomputable def gatherumref03_Turn.sh : Sh := (.one (.one .i))
noncomputable def gatherumref03_Turn.cf : Cfg := ⟨env, Try.f41.ntmps, Try.f41.results.toList, some gatherumref03_Turn.sh, rel, [2], [((2, 197, 4), ⟨[], [], [(3, [(0, .i)])], []⟩)]⟩
noncomputable def gatherumref03_Turn.b0 : Tree := (.ite (.lt (.va 4) (.nu 8)) (.ask 43 [(.ex (.va 4))] [.i, .i, .i, .i] (.ite (.and (.eq (.va 5) (.va 0)) (.and (.eq (.va 6) (.va 1)) (.and (.eq (.va 7) (.va 2)) (.eq (.va 8) (.va 3))))) (.ret [(.ex (.va 4))]) (.back 0 4 [(.ex (.add (.va 4) (.nu 1)))]))) (.ret [(.ex (.nu (-1)))]))
noncomputable def gatherumref03_Turn.t : Tree := (.loop [(.ex (.nu 0))] [.i] gatherumref03_Turn.b0)
def gatherumref03_Turn.ra : Rw (Int × Int × Int × Int) := (rwP rwI (rwP rwI (rwP rwI rwI)))
def gatherumref03_Turn.rr : Rw (Int) := rwI
theorem gatherumref03_Turn.rr_en (r : Int) : gatherumref03_Turn.rr.en r = [.int r] := rfl
def gatherumref03_Turn.l0 (K : Nat) (p0 : Int) (p1 : Int) (p2 : Int) (p3 : Int) : Nat → (Int) → Option (Int)
  | 0, _ => none
  | k + 1, x0 => (if (decide (x0 < 8)) = true then ((gatherumref03_Of.f K x0).bind fun b0 => (if ((b0.1 == p0) && ((b0.2.1 == p1) && ((b0.2.2.1 == p2) && (b0.2.2.2 == p3)))) = true then some x0 else (gatherumref03_Turn.l0 K p0 p1 p2 p3 k (wrap64 (x0 + 1))))) else some (-1))
def gatherumref03_Turn.f (K : Nat) (a0_0 : Int) (a0_1 : Int) (a0_2 : Int) (a0_3 : Int) : Option (Int) := (gatherumref03_Turn.l0 K a0_0 a0_1 a0_2 a0_3 K 0)
def gatherumref03_Turn.app (K : Nat) : App := fun ps => (gatherumref03_Turn.ra.de ps).bind fun x => (gatherumref03_Turn.f K x.1 x.2.1 x.2.2.1 x.2.2.2).map gatherumref03_Turn.rr.en
theorem gatherumref03_Turn.ap (K : Nat) (a0_0 : Int) (a0_1 : Int) (a0_2 : Int) (a0_3 : Int) : gatherumref03_Turn.app K [.int a0_0, .int a0_1, .int a0_2, .int a0_3] = (gatherumref03_Turn.f K a0_0 a0_1 a0_2 a0_3).map gatherumref03_Turn.rr.en := app_ap gatherumref03_Turn.ra gatherumref03_Turn.rr (fun x => gatherumref03_Turn.f K x.1 x.2.1 x.2.2.1 x.2.2.2) (a0_0, a0_1, a0_2, a0_3)
theorem gatherumref03_Turn.is : FnIs Try.prog 41 (.init gatherumref03_Turn.sg) gatherumref03_Turn.t gatherumref03_Turn.cf := ⟨Try.f41, gatherumref03_Turn.body, 6000, Try.func41, by kernel_rfl, rfl, rfl, by decide +kernel, by kernel_rfl⟩
theorem gatherumref03_Turn.l0_den (F : FnE) (K : Nat) (h43 : F 43 = gatherumref03_Of.app K) (Js : List (List PD → Option (List PD))) (p0 : Int) (p1 : Int) (p2 : Int) (p3 : Int) : ∀ (k : Nat) (x0 : Int), iterF (fun J ρ' => den F K gatherumref03_Turn.b0 (J :: Js) ρ') k [.int p0, .int p1, .int p2, .int p3, .int x0] = (gatherumref03_Turn.l0 K p0 p1 p2 p3 k x0).map gatherumref03_Turn.rr.en := by
  intro k
  induction k with
  | zero => intros; rfl
  | succ k ih =>
    intro x0
    show Sy.den F K gatherumref03_Turn.b0 (iterF (fun J ρ' => Sy.den F K gatherumref03_Turn.b0 (J :: Js) ρ') k :: Js) [.int p0, .int p1, .int p2, .int p3, .int x0] = _
    revert ih
    generalize iterF (fun J ρ' => Sy.den F K gatherumref03_Turn.b0 (J :: Js) ρ') k = J0
    intro ih
    simp (maxSteps := 4000000) only [gatherumref03_Turn.b0, gatherumref03_Turn.l0, gatherumref03_Turn.rr_en, h43, gatherumref03_Of.ap, gatherumref03_Of.rr_en, ih, Sy.den, iterF, pds, PC.pd, E.ev, B.ev, SE.ev, LE.rows, lensEv, K4.oks, K4.ok, kSl_eq, kPt_eq, ov_prop, List.getElem?_cons_zero, List.getElem?_cons_succ, List.getElem?_map, List.cons_append, List.nil_append, List.append_nil, List.take_succ_cons, List.take_zero, List.length_map, Nat.add_zero, Nat.zero_add, Option.bind_some, Option.map_some, Option.map_none, Option.bind_none, bmap, mapb, ite_map, ite_true, Bool.true_and, Bool.and_true, Bool.and_self, decide_true, eq_self, if_true, mxi, mni, Subtype.eta]
theorem gatherumref03_Turn.den (F : FnE) (K : Nat) (h43 : F 43 = gatherumref03_Of.app K) (a0_0 : Int) (a0_1 : Int) (a0_2 : Int) (a0_3 : Int) : Sy.den F K gatherumref03_Turn.t [] [.int a0_0, .int a0_1, .int a0_2, .int a0_3] = (gatherumref03_Turn.f K a0_0 a0_1 a0_2 a0_3).map gatherumref03_Turn.rr.en := by
  simp (maxSteps := 4000000) only [gatherumref03_Turn.t, gatherumref03_Turn.f, gatherumref03_Turn.rr_en, h43, gatherumref03_Of.ap, gatherumref03_Of.rr_en, gatherumref03_Turn.l0_den F K h43 [], Sy.den, iterF, pds, PC.pd, E.ev, B.ev, SE.ev, LE.rows, lensEv, K4.oks, K4.ok, kSl_eq, kPt_eq, ov_prop, List.getElem?_cons_zero, List.getElem?_cons_succ, List.getElem?_map, List.cons_append, List.nil_append, List.append_nil, List.take_succ_cons, List.take_zero, List.length_map, Nat.add_zero, Nat.zero_add, Option.bind_some, Option.map_some, Option.map_none, Option.bind_none, bmap, mapb, ite_map, ite_true, Bool.true_and, Bool.and_true, Bool.and_self, decide_true, eq_self, if_true, mxi, mni, Subtype.eta]
theorem gatherumref03_Turn.ok (F : FnE) (K : Nat) (h43 : F 43 = gatherumref03_Of.app K) (ps r : List PD) (h : gatherumref03_Turn.app K ps = some r) : Sy.den F K gatherumref03_Turn.t [] ps = some r := by
  obtain ⟨a, rfl, h2⟩ := app_ok (ra := gatherumref03_Turn.ra) (rr := gatherumref03_Turn.rr) (f := fun x => gatherumref03_Turn.f K x.1 x.2.1 x.2.2.1 x.2.2.2) h
  rw [← h2]
  exact gatherumref03_Turn.den F K h43 (a.1) (a.2.1) (a.2.2.1) (a.2.2.2)
def l41 (K : Nat) : List (Nat × App) := (41, gatherumref03_Turn.app K) :: l43 K
theorem gd41 (K : Nat) : Sy.Good Try.prog fns (mkF (l41 K)) := good_cons (K := K) gatherumref03_Turn.is rfl (by kernel_rfl) (by decide +kernel) envOk relOk relNp mix (gd43 K) (gatherumref03_Turn.ok _ K rfl)
/-! ### place_Matrix: function 45 -/
noncomputable def place_Matrix.body : Code := Try.f45.body.getD .skip
noncomputable def place_Matrix.sg : List S1 := [(.agg [.i, .i, .i])]
noncomputable def place_Matrix.sh : Sh := (.one (.agg [.i, .i, .i, .i, .i, .i]))
noncomputable def place_Matrix.cf : Cfg := ⟨env, Try.f45.ntmps, Try.f45.results.toList, some place_Matrix.sh, rel, [], []⟩
noncomputable def place_Matrix.t : Tree := (.ask 49 [(.ex (.va 0)), (.ex (.nu 1)), (.ex (.nu 0))] [.i, .i] (.ask 49 [(.ex (.va 0)), (.ex (.nu 0)), (.ex (.nu 1))] [.i, .i] (.ret [(.ex (.va 3)), (.ex (.va 4)), (.ex (.va 5)), (.ex (.va 6)), (.ex (.va 1)), (.ex (.va 2))])))
def place_Matrix.ra : Rw (Int × Int × Int) := (rwP rwI (rwP rwI rwI))
def place_Matrix.rr : Rw (Int × Int × Int × Int × Int × Int) := (rwP rwI (rwP rwI (rwP rwI (rwP rwI (rwP rwI rwI)))))
theorem place_Matrix.rr_en (r : Int × Int × Int × Int × Int × Int) : place_Matrix.rr.en r = [.int r.1, .int r.2.1, .int r.2.2.1, .int r.2.2.2.1, .int r.2.2.2.2.1, .int r.2.2.2.2.2] := rfl
def place_Matrix.f (K : Nat) (a0_0 : Int) (a0_1 : Int) (a0_2 : Int) : Option (Int × Int × Int × Int × Int × Int) := ((turn_Do.f K a0_0 1 0).bind fun b0 => ((turn_Do.f K a0_0 0 1).bind fun b1 => some (b0.1, b0.2, b1.1, b1.2, a0_1, a0_2)))
def place_Matrix.app (K : Nat) : App := fun ps => (place_Matrix.ra.de ps).bind fun x => (place_Matrix.f K x.1 x.2.1 x.2.2).map place_Matrix.rr.en
theorem place_Matrix.ap (K : Nat) (a0_0 : Int) (a0_1 : Int) (a0_2 : Int) : place_Matrix.app K [.int a0_0, .int a0_1, .int a0_2] = (place_Matrix.f K a0_0 a0_1 a0_2).map place_Matrix.rr.en := app_ap place_Matrix.ra place_Matrix.rr (fun x => place_Matrix.f K x.1 x.2.1 x.2.2) (a0_0, a0_1, a0_2)
theorem place_Matrix.is : FnIs Try.prog 45 (.init place_Matrix.sg) place_Matrix.t place_Matrix.cf := ⟨Try.f45, place_Matrix.body, 6000, Try.func45, by kernel_rfl, rfl, rfl, by decide +kernel, by kernel_rfl⟩
theorem place_Matrix.den (F : FnE) (K : Nat) (h49 : F 49 = turn_Do.app K) (a0_0 : Int) (a0_1 : Int) (a0_2 : Int) : Sy.den F K place_Matrix.t [] [.int a0_0, .int a0_1, .int a0_2] = (place_Matrix.f K a0_0 a0_1 a0_2).map place_Matrix.rr.en := by
  simp (maxSteps := 4000000) only [place_Matrix.t, place_Matrix.f, place_Matrix.rr_en, h49, turn_Do.ap, turn_Do.rr_en, Sy.den, iterF, pds, PC.pd, E.ev, B.ev, SE.ev, LE.rows, lensEv, K4.oks, K4.ok, kSl_eq, kPt_eq, ov_prop, List.getElem?_cons_zero, List.getElem?_cons_succ, List.getElem?_map, List.cons_append, List.nil_append, List.append_nil, List.take_succ_cons, List.take_zero, List.length_map, Nat.add_zero, Nat.zero_add, Option.bind_some, Option.map_some, Option.map_none, Option.bind_none, bmap, mapb, ite_map, ite_true, Bool.true_and, Bool.and_true, Bool.and_self, decide_true, eq_self, if_true, mxi, mni, Subtype.eta]
theorem place_Matrix.ok (F : FnE) (K : Nat) (h49 : F 49 = turn_Do.app K) (ps r : List PD) (h : place_Matrix.app K ps = some r) : Sy.den F K place_Matrix.t [] ps = some r := by
  obtain ⟨a, rfl, h2⟩ := app_ok (ra := place_Matrix.ra) (rr := place_Matrix.rr) (f := fun x => place_Matrix.f K x.1 x.2.1 x.2.2) h
  rw [← h2]
  exact place_Matrix.den F K h49 (a.1) (a.2.1) (a.2.2)
def l45 (K : Nat) : List (Nat × App) := (45, place_Matrix.app K) :: l41 K
theorem gd45 (K : Nat) : Sy.Good Try.prog fns (mkF (l45 K)) := good_cons (K := K) place_Matrix.is rfl (by kernel_rfl) (by decide +kernel) envOk relOk relNp mix (gd41 K) (place_Matrix.ok _ K rfl)
/-! ### place_Of: function 46 -/
noncomputable def place_Of.body : Code := Try.f46.body.getD .skip
noncomputable def place_Of.sg : List S1 := [(.agg [.i, .i, .i, .i, .i, .i])]
noncomputable def place_Of.sh : Sh := (.tup [(.agg [.i, .i, .i]), (.one .b)])
noncomputable def place_Of.cf : Cfg := ⟨env, Try.f46.ntmps, Try.f46.results.toList, some place_Of.sh, rel, [2], [((2, 263, 6), ⟨[], [], [(6, [(0, .i)])], []⟩)]⟩
noncomputable def place_Of.b0 : Tree := (.ite (.lt (.va 6) (.nu 8)) (.ask 45 [(.ex (.va 6)), (.ex (.va 4)), (.ex (.va 5))] [.i, .i, .i, .i, .i, .i] (.ite (.and (.eq (.va 7) (.va 0)) (.and (.eq (.va 8) (.va 1)) (.and (.eq (.va 9) (.va 2)) (.and (.eq (.va 10) (.va 3)) (.and (.eq (.va 11) (.va 4)) (.eq (.va 12) (.va 5))))))) (.ret [(.ex (.va 6)), (.ex (.va 4)), (.ex (.va 5)), (.bo (.co true))]) (.back 0 6 [(.ex (.add (.va 6) (.nu 1)))]))) (.ret [(.ex (.nu 0)), (.ex (.nu 0)), (.ex (.nu 0)), (.bo (.co false))]))
noncomputable def place_Of.t : Tree := (.loop [(.ex (.nu 0))] [.i] place_Of.b0)
def place_Of.ra : Rw (Int × Int × Int × Int × Int × Int) := (rwP rwI (rwP rwI (rwP rwI (rwP rwI (rwP rwI rwI)))))
def place_Of.rr : Rw (Int × Int × Int × Bool) := (rwP rwI (rwP rwI (rwP rwI rwB)))
theorem place_Of.rr_en (r : Int × Int × Int × Bool) : place_Of.rr.en r = [.int r.1, .int r.2.1, .int r.2.2.1, .bool r.2.2.2] := rfl
def place_Of.l0 (K : Nat) (p0 : Int) (p1 : Int) (p2 : Int) (p3 : Int) (p4 : Int) (p5 : Int) : Nat → (Int) → Option (Int × Int × Int × Bool)
  | 0, _ => none
  | k + 1, x0 => (if (decide (x0 < 8)) = true then ((place_Matrix.f K x0 p4 p5).bind fun b0 => (if ((b0.1 == p0) && ((b0.2.1 == p1) && ((b0.2.2.1 == p2) && ((b0.2.2.2.1 == p3) && ((b0.2.2.2.2.1 == p4) && (b0.2.2.2.2.2 == p5)))))) = true then some (x0, p4, p5, true) else (place_Of.l0 K p0 p1 p2 p3 p4 p5 k (wrap64 (x0 + 1))))) else some (0, 0, 0, false))
def place_Of.f (K : Nat) (a0_0 : Int) (a0_1 : Int) (a0_2 : Int) (a0_3 : Int) (a0_4 : Int) (a0_5 : Int) : Option (Int × Int × Int × Bool) := (place_Of.l0 K a0_0 a0_1 a0_2 a0_3 a0_4 a0_5 K 0)
def place_Of.app (K : Nat) : App := fun ps => (place_Of.ra.de ps).bind fun x => (place_Of.f K x.1 x.2.1 x.2.2.1 x.2.2.2.1 x.2.2.2.2.1 x.2.2.2.2.2).map place_Of.rr.en
theorem place_Of.ap (K : Nat) (a0_0 : Int) (a0_1 : Int) (a0_2 : Int) (a0_3 : Int) (a0_4 : Int) (a0_5 : Int) : place_Of.app K [.int a0_0, .int a0_1, .int a0_2, .int a0_3, .int a0_4, .int a0_5] = (place_Of.f K a0_0 a0_1 a0_2 a0_3 a0_4 a0_5).map place_Of.rr.en := app_ap place_Of.ra place_Of.rr (fun x => place_Of.f K x.1 x.2.1 x.2.2.1 x.2.2.2.1 x.2.2.2.2.1 x.2.2.2.2.2) (a0_0, a0_1, a0_2, a0_3, a0_4, a0_5)
theorem place_Of.is : FnIs Try.prog 46 (.init place_Of.sg) place_Of.t place_Of.cf := ⟨Try.f46, place_Of.body, 6000, Try.func46, by kernel_rfl, rfl, rfl, by decide +kernel, by kernel_rfl⟩
theorem place_Of.l0_den (F : FnE) (K : Nat) (h45 : F 45 = place_Matrix.app K) (Js : List (List PD → Option (List PD))) (p0 : Int) (p1 : Int) (p2 : Int) (p3 : Int) (p4 : Int) (p5 : Int) : ∀ (k : Nat) (x0 : Int), iterF (fun J ρ' => den F K place_Of.b0 (J :: Js) ρ') k [.int p0, .int p1, .int p2, .int p3, .int p4, .int p5, .int x0] = (place_Of.l0 K p0 p1 p2 p3 p4 p5 k x0).map place_Of.rr.en := by
  intro k
  induction k with
  | zero => intros; rfl
  | succ k ih =>
    intro x0
    show Sy.den F K place_Of.b0 (iterF (fun J ρ' => Sy.den F K place_Of.b0 (J :: Js) ρ') k :: Js) [.int p0, .int p1, .int p2, .int p3, .int p4, .int p5, .int x0] = _
    revert ih
    generalize iterF (fun J ρ' => Sy.den F K place_Of.b0 (J :: Js) ρ') k = J0
    intro ih
    simp (maxSteps := 4000000) only [place_Of.b0, place_Of.l0, place_Of.rr_en, h45, place_Matrix.ap, place_Matrix.rr_en, ih, Sy.den, iterF, pds, PC.pd, E.ev, B.ev, SE.ev, LE.rows, lensEv, K4.oks, K4.ok, kSl_eq, kPt_eq, ov_prop, List.getElem?_cons_zero, List.getElem?_cons_succ, List.getElem?_map, List.cons_append, List.nil_append, List.append_nil, List.take_succ_cons, List.take_zero, List.length_map, Nat.add_zero, Nat.zero_add, Option.bind_some, Option.map_some, Option.map_none, Option.bind_none, bmap, mapb, ite_map, ite_true, Bool.true_and, Bool.and_true, Bool.and_self, decide_true, eq_self, if_true, mxi, mni, Subtype.eta]
theorem place_Of.den (F : FnE) (K : Nat) (h45 : F 45 = place_Matrix.app K) (a0_0 : Int) (a0_1 : Int) (a0_2 : Int) (a0_3 : Int) (a0_4 : Int) (a0_5 : Int) : Sy.den F K place_Of.t [] [.int a0_0, .int a0_1, .int a0_2, .int a0_3, .int a0_4, .int a0_5] = (place_Of.f K a0_0 a0_1 a0_2 a0_3 a0_4 a0_5).map place_Of.rr.en := by
  simp (maxSteps := 4000000) only [place_Of.t, place_Of.f, place_Of.rr_en, h45, place_Matrix.ap, place_Matrix.rr_en, place_Of.l0_den F K h45 [], Sy.den, iterF, pds, PC.pd, E.ev, B.ev, SE.ev, LE.rows, lensEv, K4.oks, K4.ok, kSl_eq, kPt_eq, ov_prop, List.getElem?_cons_zero, List.getElem?_cons_succ, List.getElem?_map, List.cons_append, List.nil_append, List.append_nil, List.take_succ_cons, List.take_zero, List.length_map, Nat.add_zero, Nat.zero_add, Option.bind_some, Option.map_some, Option.map_none, Option.bind_none, bmap, mapb, ite_map, ite_true, Bool.true_and, Bool.and_true, Bool.and_self, decide_true, eq_self, if_true, mxi, mni, Subtype.eta]
theorem place_Of.ok (F : FnE) (K : Nat) (h45 : F 45 = place_Matrix.app K) (ps r : List PD) (h : place_Of.app K ps = some r) : Sy.den F K place_Of.t [] ps = some r := by
  obtain ⟨a, rfl, h2⟩ := app_ok (ra := place_Of.ra) (rr := place_Of.rr) (f := fun x => place_Of.f K x.1 x.2.1 x.2.2.1 x.2.2.2.1 x.2.2.2.2.1 x.2.2.2.2.2) h
  rw [← h2]
  exact place_Of.den F K h45 (a.1) (a.2.1) (a.2.2.1) (a.2.2.2.1) (a.2.2.2.2.1) (a.2.2.2.2.2)
def l46 (K : Nat) : List (Nat × App) := (46, place_Of.app K) :: l45 K
theorem gd46 (K : Nat) : Sy.Good Try.prog fns (mkF (l46 K)) := good_cons (K := K) place_Of.is rfl (by kernel_rfl) (by decide +kernel) envOk relOk relNp mix (gd45 K) (place_Of.ok _ K rfl)
/-! ### gatherumlaw06_PlaceMatrix: function 9 -/
noncomputable def gatherumlaw06_PlaceMatrix.body : Code := Try.f9.body.getD .skip
noncomputable def gatherumlaw06_PlaceMatrix.sg : List S1 := [(.agg [.i, .i, .i]), (.agg [.i, .i, .i, .i, .i, .i]), (.agg [.i, .i])]
noncomputable def gatherumlaw06_PlaceMatrix.sh : Sh := (.one (.one .b))
noncomputable def gatherumlaw06_PlaceMatrix.cf : Cfg := ⟨env, Try.f9.ntmps, Try.f9.results.toList, some gatherumlaw06_PlaceMatrix.sh, rel, [], []⟩
noncomputable def gatherumlaw06_PlaceMatrix.t : Tree := (.ask 14 [] [.b] (.ite (.not (.va 11)) (.ret [(.bo (.co false))]) (.ask 45 [(.ex (.va 0)), (.ex (.va 1)), (.ex (.va 2))] [.i, .i, .i, .i, .i, .i] (.ask 46 [(.ex (.va 12)), (.ex (.va 13)), (.ex (.va 14)), (.ex (.va 15)), (.ex (.va 16)), (.ex (.va 17))] [.i, .i, .i, .b] (.ask 46 [(.ex (.va 3)), (.ex (.va 4)), (.ex (.va 5)), (.ex (.va 6)), (.ex (.va 7)), (.ex (.va 8))] [.i, .i, .i, .b] (.ask 41 [(.ex (.va 3)), (.ex (.va 4)), (.ex (.va 5)), (.ex (.va 6))] [.i] (.ite (.not (.eqb (.va 25) (.le (.nu 0) (.va 26)))) (.ret [(.bo (.co false))]) (.ite (.va 25) (.ite (.not (.and (.eq (.va 22) (.va 26)) (.and (.eq (.va 23) (.va 7)) (.eq (.va 24) (.va 8))))) (.ret [(.bo (.co false))]) (.ask 15 [(.ex (.va 0)), (.ex (.va 1)), (.ex (.va 2)), (.ex (.va 9)), (.ex (.va 10))] [.i, .i] (.ite (.and (.eq (.add (.add (.mul (.va 12) (.va 9)) (.mul (.va 14) (.va 10))) (.va 16)) (.va 27)) (.eq (.add (.add (.mul (.va 13) (.va 9)) (.mul (.va 15) (.va 10))) (.va 17)) (.va 28))) (.ite (.va 21) (.ret [(.bo (.and (.eq (.va 18) (.and (.va 0) (.nu 7))) (.and (.eq (.va 19) (.va 1)) (.eq (.va 20) (.va 2)))))]) (.ret [(.bo (.co false))])) (.ret [(.bo (.co false))])))) (.ite (.not (.and (.eq (.va 22) (.nu 0)) (.and (.eq (.va 23) (.nu 0)) (.eq (.va 24) (.nu 0))))) (.ret [(.bo (.co false))]) (.ask 15 [(.ex (.va 0)), (.ex (.va 1)), (.ex (.va 2)), (.ex (.va 9)), (.ex (.va 10))] [.i, .i] (.ite (.and (.eq (.add (.add (.mul (.va 12) (.va 9)) (.mul (.va 14) (.va 10))) (.va 16)) (.va 27)) (.eq (.add (.add (.mul (.va 13) (.va 9)) (.mul (.va 15) (.va 10))) (.va 17)) (.va 28))) (.ite (.va 21) (.ret [(.bo (.and (.eq (.va 18) (.and (.va 0) (.nu 7))) (.and (.eq (.va 19) (.va 1)) (.eq (.va 20) (.va 2)))))]) (.ret [(.bo (.co false))])) (.ret [(.bo (.co false))]))))))))))))
def gatherumlaw06_PlaceMatrix.ra : Rw (Int × Int × Int × Int × Int × Int × Int × Int × Int × Int × Int) := (rwP rwI (rwP rwI (rwP rwI (rwP rwI (rwP rwI (rwP rwI (rwP rwI (rwP rwI (rwP rwI (rwP rwI rwI))))))))))
def gatherumlaw06_PlaceMatrix.rr : Rw (Bool) := rwB
theorem gatherumlaw06_PlaceMatrix.rr_en (r : Bool) : gatherumlaw06_PlaceMatrix.rr.en r = [.bool r] := rfl
def gatherumlaw06_PlaceMatrix.f (K : Nat) (a0_0 : Int) (a0_1 : Int) (a0_2 : Int) (a1_0 : Int) (a1_1 : Int) (a1_2 : Int) (a1_3 : Int) (a1_4 : Int) (a1_5 : Int) (a2_0 : Int) (a2_1 : Int) : Option (Bool) := ((gatherumlaw06_alive.f K).bind fun b0 => (if (!b0) = true then some false else ((place_Matrix.f K a0_0 a0_1 a0_2).bind fun b1 => ((place_Of.f K b1.1 b1.2.1 b1.2.2.1 b1.2.2.2.1 b1.2.2.2.2.1 b1.2.2.2.2.2).bind fun b2 => ((place_Of.f K a1_0 a1_1 a1_2 a1_3 a1_4 a1_5).bind fun b3 => ((gatherumref03_Turn.f K a1_0 a1_1 a1_2 a1_3).bind fun b4 => (if (!(b3.2.2.2 == (decide (0 ≤ b4)))) = true then some false else (if b3.2.2.2 = true then (if (!((b3.1 == b4) && ((b3.2.1 == a1_4) && (b3.2.2.1 == a1_5)))) = true then some false else ((place_Do.f K a0_0 a0_1 a0_2 a2_0 a2_1).bind fun b5 => (if (((wrap64 ((wrap64 ((wrap64 (b1.1 * a2_0)) + (wrap64 (b1.2.2.1 * a2_1)))) + b1.2.2.2.2.1)) == b5.1) && ((wrap64 ((wrap64 ((wrap64 (b1.2.1 * a2_0)) + (wrap64 (b1.2.2.2.1 * a2_1)))) + b1.2.2.2.2.2)) == b5.2)) = true then (if b2.2.2.2 = true then some ((b2.1 == (Go.bits .and .i64 a0_0 7)) && ((b2.2.1 == a0_1) && (b2.2.2.1 == a0_2))) else some false) else some false))) else (if (!((b3.1 == 0) && ((b3.2.1 == 0) && (b3.2.2.1 == 0)))) = true then some false else ((place_Do.f K a0_0 a0_1 a0_2 a2_0 a2_1).bind fun b5 => (if (((wrap64 ((wrap64 ((wrap64 (b1.1 * a2_0)) + (wrap64 (b1.2.2.1 * a2_1)))) + b1.2.2.2.2.1)) == b5.1) && ((wrap64 ((wrap64 ((wrap64 (b1.2.1 * a2_0)) + (wrap64 (b1.2.2.2.1 * a2_1)))) + b1.2.2.2.2.2)) == b5.2)) = true then (if b2.2.2.2 = true then some ((b2.1 == (Go.bits .and .i64 a0_0 7)) && ((b2.2.1 == a0_1) && (b2.2.2.1 == a0_2))) else some false) else some false)))))))))))
def gatherumlaw06_PlaceMatrix.app (K : Nat) : App := fun ps => (gatherumlaw06_PlaceMatrix.ra.de ps).bind fun x => (gatherumlaw06_PlaceMatrix.f K x.1 x.2.1 x.2.2.1 x.2.2.2.1 x.2.2.2.2.1 x.2.2.2.2.2.1 x.2.2.2.2.2.2.1 x.2.2.2.2.2.2.2.1 x.2.2.2.2.2.2.2.2.1 x.2.2.2.2.2.2.2.2.2.1 x.2.2.2.2.2.2.2.2.2.2).map gatherumlaw06_PlaceMatrix.rr.en
theorem gatherumlaw06_PlaceMatrix.ap (K : Nat) (a0_0 : Int) (a0_1 : Int) (a0_2 : Int) (a1_0 : Int) (a1_1 : Int) (a1_2 : Int) (a1_3 : Int) (a1_4 : Int) (a1_5 : Int) (a2_0 : Int) (a2_1 : Int) : gatherumlaw06_PlaceMatrix.app K [.int a0_0, .int a0_1, .int a0_2, .int a1_0, .int a1_1, .int a1_2, .int a1_3, .int a1_4, .int a1_5, .int a2_0, .int a2_1] = (gatherumlaw06_PlaceMatrix.f K a0_0 a0_1 a0_2 a1_0 a1_1 a1_2 a1_3 a1_4 a1_5 a2_0 a2_1).map gatherumlaw06_PlaceMatrix.rr.en := app_ap gatherumlaw06_PlaceMatrix.ra gatherumlaw06_PlaceMatrix.rr (fun x => gatherumlaw06_PlaceMatrix.f K x.1 x.2.1 x.2.2.1 x.2.2.2.1 x.2.2.2.2.1 x.2.2.2.2.2.1 x.2.2.2.2.2.2.1 x.2.2.2.2.2.2.2.1 x.2.2.2.2.2.2.2.2.1 x.2.2.2.2.2.2.2.2.2.1 x.2.2.2.2.2.2.2.2.2.2) (a0_0, a0_1, a0_2, a1_0, a1_1, a1_2, a1_3, a1_4, a1_5, a2_0, a2_1)
theorem gatherumlaw06_PlaceMatrix.is : FnIs Try.prog 9 (.init gatherumlaw06_PlaceMatrix.sg) gatherumlaw06_PlaceMatrix.t gatherumlaw06_PlaceMatrix.cf := ⟨Try.f9, gatherumlaw06_PlaceMatrix.body, 6000, Try.func9, by kernel_rfl, rfl, rfl, by decide +kernel, by kernel_rfl⟩
theorem gatherumlaw06_PlaceMatrix.den (F : FnE) (K : Nat) (h14 : F 14 = gatherumlaw06_alive.app K) (h15 : F 15 = place_Do.app K) (h41 : F 41 = gatherumref03_Turn.app K) (h45 : F 45 = place_Matrix.app K) (h46 : F 46 = place_Of.app K) (a0_0 : Int) (a0_1 : Int) (a0_2 : Int) (a1_0 : Int) (a1_1 : Int) (a1_2 : Int) (a1_3 : Int) (a1_4 : Int) (a1_5 : Int) (a2_0 : Int) (a2_1 : Int) : Sy.den F K gatherumlaw06_PlaceMatrix.t [] [.int a0_0, .int a0_1, .int a0_2, .int a1_0, .int a1_1, .int a1_2, .int a1_3, .int a1_4, .int a1_5, .int a2_0, .int a2_1] = (gatherumlaw06_PlaceMatrix.f K a0_0 a0_1 a0_2 a1_0 a1_1 a1_2 a1_3 a1_4 a1_5 a2_0 a2_1).map gatherumlaw06_PlaceMatrix.rr.en := by
  simp (maxSteps := 4000000) only [gatherumlaw06_PlaceMatrix.t, gatherumlaw06_PlaceMatrix.f, gatherumlaw06_PlaceMatrix.rr_en, h14, gatherumlaw06_alive.ap, gatherumlaw06_alive.rr_en, h15, place_Do.ap, place_Do.rr_en, h41, gatherumref03_Turn.ap, gatherumref03_Turn.rr_en, h45, place_Matrix.ap, place_Matrix.rr_en, h46, place_Of.ap, place_Of.rr_en, Sy.den, iterF, pds, PC.pd, E.ev, B.ev, SE.ev, LE.rows, lensEv, K4.oks, K4.ok, kSl_eq, kPt_eq, ov_prop, List.getElem?_cons_zero, List.getElem?_cons_succ, List.getElem?_map, List.cons_append, List.nil_append, List.append_nil, List.take_succ_cons, List.take_zero, List.length_map, Nat.add_zero, Nat.zero_add, Option.bind_some, Option.map_some, Option.map_none, Option.bind_none, bmap, mapb, ite_map, ite_true, Bool.true_and, Bool.and_true, Bool.and_self, decide_true, eq_self, if_true, mxi, mni, Subtype.eta]
theorem gatherumlaw06_PlaceMatrix.ok (F : FnE) (K : Nat) (h14 : F 14 = gatherumlaw06_alive.app K) (h15 : F 15 = place_Do.app K) (h41 : F 41 = gatherumref03_Turn.app K) (h45 : F 45 = place_Matrix.app K) (h46 : F 46 = place_Of.app K) (ps r : List PD) (h : gatherumlaw06_PlaceMatrix.app K ps = some r) : Sy.den F K gatherumlaw06_PlaceMatrix.t [] ps = some r := by
  obtain ⟨a, rfl, h2⟩ := app_ok (ra := gatherumlaw06_PlaceMatrix.ra) (rr := gatherumlaw06_PlaceMatrix.rr) (f := fun x => gatherumlaw06_PlaceMatrix.f K x.1 x.2.1 x.2.2.1 x.2.2.2.1 x.2.2.2.2.1 x.2.2.2.2.2.1 x.2.2.2.2.2.2.1 x.2.2.2.2.2.2.2.1 x.2.2.2.2.2.2.2.2.1 x.2.2.2.2.2.2.2.2.2.1 x.2.2.2.2.2.2.2.2.2.2) h
  rw [← h2]
  exact gatherumlaw06_PlaceMatrix.den F K h14 h15 h41 h45 h46 (a.1) (a.2.1) (a.2.2.1) (a.2.2.2.1) (a.2.2.2.2.1) (a.2.2.2.2.2.1) (a.2.2.2.2.2.2.1) (a.2.2.2.2.2.2.2.1) (a.2.2.2.2.2.2.2.2.1) (a.2.2.2.2.2.2.2.2.2.1) (a.2.2.2.2.2.2.2.2.2.2)
theorem gatherumlaw06_PlaceMatrix.calls (K : Nat) (a0_0 : Int) (a0_1 : Int) (a0_2 : Int) (a1_0 : Int) (a1_1 : Int) (a1_2 : Int) (a1_3 : Int) (a1_4 : Int) (a1_5 : Int) (a2_0 : Int) (a2_1 : Int) (w : World) (S : Nat → Prop) (hS : ∀ b, S b → b < w.heap.size) (vals : List Value) (hv : RepArgs w S gatherumlaw06_PlaceMatrix.sg [.int a0_0, .int a0_1, .int a0_2, .int a1_0, .int a1_1, .int a1_2, .int a1_3, .int a1_4, .int a1_5, .int a2_0, .int a2_1] vals) (h : gatherumlaw06_PlaceMatrix.f K a0_0 a0_1 a0_2 a1_0 a1_1 a1_2 a1_3 a1_4 a1_5 a2_0 a2_1 = some true) :
    Calls Try.prog 9 vals.toArray w fun e w' => e = .returned (.bool true) ∧ Below w.heap.size w w' := by
  refine (fn_callsD (r := [.bool true]) gatherumlaw06_PlaceMatrix.is rfl (by decide +kernel) envOk relOk relNp mix (gd46 K) (Den_of_den _ [] [] _ (fun d j hj => by simp at hj) (by rw [gatherumlaw06_PlaceMatrix.den _ K rfl rfl rfl rfl rfl, h]; rfl)) hS hv).mono fun e w' he => ?_
  cases e with
  | returned u => exact ⟨by rw [bool_ans he.1], he.2⟩
  | panicked c => exact he.elim
  | outgrown => exact he.elim
end Go.Proofs.Ytnahjeeochfljaa.XPlaceMatrix
