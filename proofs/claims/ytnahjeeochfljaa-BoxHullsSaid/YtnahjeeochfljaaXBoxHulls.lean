/- What the functions of the law BoxHulls compute: written by sygen.py from the executor's answers. -/
import Derived.Test.YtnahjeeochfljaaSyB
import Derived.Test.YtnahjeeochfljaaProg
import Derived.KernelRfl
set_option linter.unusedVariables false
set_option linter.unusedSimpArgs false
set_option maxRecDepth 100000
set_option maxHeartbeats 4000000
namespace Go.Proofs.Ytnahjeeochfljaa.XBoxHulls
open Go Go.RowKit Go.Proofs Go.Proofs.Ytnahjeeochfljaa.Sy
noncomputable def ty3 : TD := ⟨(TypeDesc.int IntKind.i64), (.int .i64 0), 1, 8⟩
noncomputable def ty4 : TD := ⟨TypeDesc.bool, (.bool false), 1, 1⟩
noncomputable def ty27 : TD := ⟨(TypeDesc.struct #[{ name := "X0", type := 3, offset := 0, embedded := false, tag := "", pkgPath := "", byteOffset := 0 }, { name := "Y0", type := 3, offset := 1, embedded := false, tag := "", pkgPath := "", byteOffset := 8 }, { name := "X1", type := 3, offset := 2, embedded := false, tag := "", pkgPath := "", byteOffset := 16 }, { name := "Y1", type := 3, offset := 3, embedded := false, tag := "", pkgPath := "", byteOffset := 24 }]), (.agg #[.int .i64 0, .int .i64 0, .int .i64 0, .int .i64 0]), 4, 32⟩
noncomputable def ty34 : TD := ⟨(TypeDesc.slice 27), (.slice none 0 0), 1, 24⟩
noncomputable def ty72 : TD := ⟨(TypeDesc.array 4 4), (.agg #[.bool false, .bool false, .bool false, .bool false]), 4, 4⟩
noncomputable def tys : List (Nat × TD) := [(3, ty3), (4, ty4), (27, ty27), (34, ty34), (72, ty72)]
noncomputable def flats : List Nat := [27, 72]
noncomputable def kds : List (Nat × List K4) := [(3, [.i]), (4, [.b]), (27, [.i, .i, .i, .i]), (34, [(.l 27 4)]), (72, [.b, .b, .b, .b])]
noncomputable def fns : List (Nat × List S1 × Sh) := [(31, [(.agg [.i, .i, .i, .i])], (.one (.one .b))), (23, [(.agg [.i, .i, .i, .i]), (.one .b), (.one .i)], (.one (.one (.l 27 4)))), (28, [(.agg [.i, .i, .i, .i]), (.agg [.i, .i, .i, .i])], (.one (.agg [.i, .i, .i, .i]))), (22, [], (.one (.one .b))), (24, [(.agg [.i, .i, .i, .i])], (.one (.one .b))), (33, [(.agg [.i, .i, .i, .i]), (.agg [.i, .i, .i, .i])], (.one (.one .b))), (52, [(.one (.l 27 4))], (.one (.agg [.i, .i, .i, .i]))), (12, [(.one (.l 27 4))], (.one (.one .b)))]
noncomputable def env : Env := ⟨tys, eqsOf tys flats flats, kds, fns⟩
noncomputable def rel : List (Nat × RelE) := []
theorem tysOk : TysOk Try.prog tys := (tys_cons (tys_cons (tys_cons (tys_cons (tys_cons tys_nil (t := 72) (td := ty72) Try.underlying72 (by kernel_rfl)) (t := 34) (td := ty34) Try.underlying34 (by kernel_rfl)) (t := 27) (td := ty27) Try.underlying27 (by kernel_rfl)) (t := 4) (td := ty4) Try.underlying4 (by kernel_rfl)) (t := 3) (td := ty3) Try.underlying3 (by kernel_rfl))
theorem flatOk : FlatOk Try.prog flats := (flat_cons (flat_cons flat_nil (t := 72) (by kernel_rfl) (by kernel_rfl)) (t := 27) (by kernel_rfl) (by kernel_rfl))
theorem envOk : EnvOk Try.prog env := env_ok tysOk flatOk kds fns
theorem mix : Try.prog.follows .mixedOrders = true := by kernel_rfl
theorem relOk : GoodR Try.prog rel := goodR_nil
theorem relNp : RelNoPt rel := relNoPt_nil
def l0 (K : Nat) : List (Nat × App) := []
theorem gd0 (K : Nat) : Sy.Good Try.prog fns (mkF (l0 K)) := good_nil
def kSl : Ov := ⟨.slice none 0 0, rfl⟩
theorem kSl_eq : Value.slice none 0 0 = kSl.1 := rfl
def kPt : Ov := ⟨.pointer none, rfl⟩
theorem kPt_eq : Value.pointer none = kPt.1 := rfl
def rw_iiii : Rw (Int × Int × Int × Int) := (rwP rwI (rwP rwI (rwP rwI rwI)))
theorem rw_iiii_en (r : Int × Int × Int × Int) : rw_iiii.en r = [.int r.1, .int r.2.1, .int r.2.2.1, .int r.2.2.2] := rfl
theorem rw_iiii_one (r0 : Int) (r1 : Int) (r2 : Int) (r3 : Int) : ([[.int r0, .int r1, .int r2, .int r3]] : List (List PD)) = [(r0, r1, r2, r3)].map rw_iiii.en := rfl
theorem rw_iiii_cons (r0 : Int) (r1 : Int) (r2 : Int) (r3 : Int) (l : List (Int × Int × Int × Int)) : ([.int r0, .int r1, .int r2, .int r3] :: l.map rw_iiii.en : List (List PD)) = ((r0, r1, r2, r3) :: l).map rw_iiii.en := rfl
theorem rw_iiii_nil : (PD.lst 4 [] : PD) = PD.lst 4 (([] : List (Int × Int × Int × Int)).map rw_iiii.en) := rfl
/-! ### box_Empty: function 31 -/
noncomputable def box_Empty.body : Code := Try.f31.body.getD .skip
noncomputable def box_Empty.sg : List S1 := [(.agg [.i, .i, .i, .i])]
noncomputable def box_Empty.sh : Sh := (.one (.one .b))
noncomputable def box_Empty.cf : Cfg := ⟨env, Try.f31.ntmps, Try.f31.results.toList, some box_Empty.sh, rel, [], []⟩
noncomputable def box_Empty.t : Tree := (.ite (.le (.va 2) (.va 0)) (.ret [(.bo (.co true))]) (.ret [(.bo (.le (.va 3) (.va 1)))]))
def box_Empty.ra : Rw (Int × Int × Int × Int) := (rwP rwI (rwP rwI (rwP rwI rwI)))
def box_Empty.rr : Rw (Bool) := rwB
theorem box_Empty.rr_en (r : Bool) : box_Empty.rr.en r = [.bool r] := rfl
def box_Empty.f (a0_0 : Int) (a0_1 : Int) (a0_2 : Int) (a0_3 : Int) : Option (Bool) := (if (decide (a0_2 ≤ a0_0)) = true then some true else some (decide (a0_3 ≤ a0_1)))
def box_Empty.app : App := fun ps => (box_Empty.ra.de ps).bind fun x => (box_Empty.f x.1 x.2.1 x.2.2.1 x.2.2.2).map box_Empty.rr.en
theorem box_Empty.ap (a0_0 : Int) (a0_1 : Int) (a0_2 : Int) (a0_3 : Int) : box_Empty.app [.int a0_0, .int a0_1, .int a0_2, .int a0_3] = (box_Empty.f a0_0 a0_1 a0_2 a0_3).map box_Empty.rr.en := app_ap box_Empty.ra box_Empty.rr (fun x => box_Empty.f x.1 x.2.1 x.2.2.1 x.2.2.2) (a0_0, a0_1, a0_2, a0_3)
theorem box_Empty.is : FnIs Try.prog 31 (.init box_Empty.sg) box_Empty.t box_Empty.cf := ⟨Try.f31, box_Empty.body, 6000, Try.func31, by kernel_rfl, rfl, rfl, by decide +kernel, by kernel_rfl⟩
theorem box_Empty.den (F : FnE) (K : Nat) (a0_0 : Int) (a0_1 : Int) (a0_2 : Int) (a0_3 : Int) : Sy.den F K box_Empty.t [] [.int a0_0, .int a0_1, .int a0_2, .int a0_3] = (box_Empty.f a0_0 a0_1 a0_2 a0_3).map box_Empty.rr.en := by
  simp (maxSteps := 4000000) only [box_Empty.t, box_Empty.f, box_Empty.rr_en, Sy.den, iterF, pds, PC.pd, E.ev, B.ev, SE.ev, LE.rows, lensEv, K4.oks, K4.ok, kSl_eq, kPt_eq, ov_prop, List.getElem?_cons_zero, List.getElem?_cons_succ, List.getElem?_map, List.cons_append, List.nil_append, List.append_nil, List.take_succ_cons, List.take_zero, List.length_map, Nat.add_zero, Nat.zero_add, Option.bind_some, Option.map_some, Option.map_none, Option.bind_none, bmap, mapb, ite_map, ite_true, Bool.true_and, Bool.and_true, Bool.and_self, decide_true, eq_self, if_true, mxi, mni, Subtype.eta]
theorem box_Empty.ok (F : FnE) (K : Nat) (ps r : List PD) (h : box_Empty.app ps = some r) : Sy.den F K box_Empty.t [] ps = some r := by
  obtain ⟨a, rfl, h2⟩ := app_ok (ra := box_Empty.ra) (rr := box_Empty.rr) (f := fun x => box_Empty.f x.1 x.2.1 x.2.2.1 x.2.2.2) h
  rw [← h2]
  exact box_Empty.den F K (a.1) (a.2.1) (a.2.2.1) (a.2.2.2)
def l31 (K : Nat) : List (Nat × App) := (31, box_Empty.app) :: l0 K
theorem gd31 (K : Nat) : Sy.Good Try.prog fns (mkF (l31 K)) := good_cons (K := K) box_Empty.is rfl (by kernel_rfl) (by decide +kernel) envOk relOk relNp mix (gd0 K) (box_Empty.ok _ K)
/-! ### box_Split: function 23 -/
noncomputable def box_Split.body : Code := Try.f23.body.getD .skip
noncomputable def box_Split.sg : List S1 := [(.agg [.i, .i, .i, .i]), (.one .b), (.one .i)]
noncomputable def box_Split.sh : Sh := (.one (.one (.l 27 4)))
noncomputable def box_Split.cf : Cfg := ⟨env, Try.f23.ntmps, Try.f23.results.toList, some box_Split.sh, rel, [], []⟩
noncomputable def box_Split.t : Tree := (.ask 31 [(.ex (.va 0)), (.ex (.va 1)), (.ex (.va 2)), (.ex (.va 3))] [.b] (.ite (.va 6) (.ret [(.nl 4)]) (.ite (.va 4) (.ite (.lt (.va 0) (.va 5)) (.ite (.lt (.va 5) (.va 2)) (.fix [(.row [(.ex (.va 0)), (.ex (.va 1)), (.ex (.va 5)), (.ex (.va 3))]), (.row [(.ex (.va 5)), (.ex (.va 1)), (.ex (.va 2)), (.ex (.va 3))])] 4 (.ret [(.li 7)])) (.fix [(.row [(.ex (.va 0)), (.ex (.va 1)), (.ex (.va 2)), (.ex (.va 3))])] 4 (.ret [(.li 7)]))) (.fix [(.row [(.ex (.va 0)), (.ex (.va 1)), (.ex (.va 2)), (.ex (.va 3))])] 4 (.ret [(.li 7)]))) (.ite (.lt (.va 1) (.va 5)) (.ite (.lt (.va 5) (.va 3)) (.fix [(.row [(.ex (.va 0)), (.ex (.va 1)), (.ex (.va 2)), (.ex (.va 5))]), (.row [(.ex (.va 0)), (.ex (.va 5)), (.ex (.va 2)), (.ex (.va 3))])] 4 (.ret [(.li 7)])) (.fix [(.row [(.ex (.va 0)), (.ex (.va 1)), (.ex (.va 2)), (.ex (.va 3))])] 4 (.ret [(.li 7)]))) (.fix [(.row [(.ex (.va 0)), (.ex (.va 1)), (.ex (.va 2)), (.ex (.va 3))])] 4 (.ret [(.li 7)]))))))
def box_Split.ra : Rw (Int × Int × Int × Int × Bool × Int) := (rwP rwI (rwP rwI (rwP rwI (rwP rwI (rwP rwB rwI)))))
def box_Split.rr : Rw (List (Int × Int × Int × Int)) := (rwL 27 4 rw_iiii rfl)
theorem box_Split.rr_en (r : List (Int × Int × Int × Int)) : box_Split.rr.en r = [.lst 4 (r.map rw_iiii.en)] := rfl
def box_Split.f (a0_0 : Int) (a0_1 : Int) (a0_2 : Int) (a0_3 : Int) (a1 : Bool) (a2 : Int) : Option (List (Int × Int × Int × Int)) := ((box_Empty.f a0_0 a0_1 a0_2 a0_3).bind fun b0 => (if b0 = true then some [] else (if a1 = true then (if (decide (a0_0 < a2)) = true then (if (decide (a2 < a0_2)) = true then some ((a0_0, a0_1, a2, a0_3) :: [(a2, a0_1, a0_2, a0_3)]) else some [(a0_0, a0_1, a0_2, a0_3)]) else some [(a0_0, a0_1, a0_2, a0_3)]) else (if (decide (a0_1 < a2)) = true then (if (decide (a2 < a0_3)) = true then some ((a0_0, a0_1, a0_2, a2) :: [(a0_0, a2, a0_2, a0_3)]) else some [(a0_0, a0_1, a0_2, a0_3)]) else some [(a0_0, a0_1, a0_2, a0_3)]))))
def box_Split.app : App := fun ps => (box_Split.ra.de ps).bind fun x => (box_Split.f x.1 x.2.1 x.2.2.1 x.2.2.2.1 x.2.2.2.2.1 x.2.2.2.2.2).map box_Split.rr.en
theorem box_Split.ap (a0_0 : Int) (a0_1 : Int) (a0_2 : Int) (a0_3 : Int) (a1 : Bool) (a2 : Int) : box_Split.app [.int a0_0, .int a0_1, .int a0_2, .int a0_3, .bool a1, .int a2] = (box_Split.f a0_0 a0_1 a0_2 a0_3 a1 a2).map box_Split.rr.en := app_ap box_Split.ra box_Split.rr (fun x => box_Split.f x.1 x.2.1 x.2.2.1 x.2.2.2.1 x.2.2.2.2.1 x.2.2.2.2.2) (a0_0, a0_1, a0_2, a0_3, a1, a2)
theorem box_Split.is : FnIs Try.prog 23 (.init box_Split.sg) box_Split.t box_Split.cf := ⟨Try.f23, box_Split.body, 6000, Try.func23, by kernel_rfl, rfl, rfl, by decide +kernel, by kernel_rfl⟩
theorem box_Split.den (F : FnE) (K : Nat) (h31 : F 31 = box_Empty.app) (a0_0 : Int) (a0_1 : Int) (a0_2 : Int) (a0_3 : Int) (a1 : Bool) (a2 : Int) : Sy.den F K box_Split.t [] [.int a0_0, .int a0_1, .int a0_2, .int a0_3, .bool a1, .int a2] = (box_Split.f a0_0 a0_1 a0_2 a0_3 a1 a2).map box_Split.rr.en := by
  simp (maxSteps := 4000000) only [box_Split.t, box_Split.f, box_Split.rr_en, h31, box_Empty.ap, box_Empty.rr_en, Sy.den, iterF, pds, PC.pd, E.ev, B.ev, SE.ev, LE.rows, lensEv, K4.oks, K4.ok, kSl_eq, kPt_eq, ov_prop, List.getElem?_cons_zero, List.getElem?_cons_succ, List.getElem?_map, List.cons_append, List.nil_append, List.append_nil, List.take_succ_cons, List.take_zero, List.length_map, Nat.add_zero, Nat.zero_add, Option.bind_some, Option.map_some, Option.map_none, Option.bind_none, bmap, mapb, ite_map, ite_true, Bool.true_and, Bool.and_true, Bool.and_self, decide_true, eq_self, if_true, mxi, mni, Subtype.eta, rw_iiii_en, rw_iiii_one, rw_iiii_cons, ← List.map_append, rw_iiii_nil]
theorem box_Split.ok (F : FnE) (K : Nat) (h31 : F 31 = box_Empty.app) (ps r : List PD) (h : box_Split.app ps = some r) : Sy.den F K box_Split.t [] ps = some r := by
  obtain ⟨a, rfl, h2⟩ := app_ok (ra := box_Split.ra) (rr := box_Split.rr) (f := fun x => box_Split.f x.1 x.2.1 x.2.2.1 x.2.2.2.1 x.2.2.2.2.1 x.2.2.2.2.2) h
  rw [← h2]
  exact box_Split.den F K h31 (a.1) (a.2.1) (a.2.2.1) (a.2.2.2.1) (a.2.2.2.2.1) (a.2.2.2.2.2)
def l23 (K : Nat) : List (Nat × App) := (23, box_Split.app) :: l31 K
theorem gd23 (K : Nat) : Sy.Good Try.prog fns (mkF (l23 K)) := good_cons (K := K) box_Split.is rfl (by kernel_rfl) (by decide +kernel) envOk relOk relNp mix (gd31 K) (box_Split.ok _ K rfl)
/-! ### box_Meet: function 28 -/
noncomputable def box_Meet.body : Code := Try.f28.body.getD .skip
noncomputable def box_Meet.sg : List S1 := [(.agg [.i, .i, .i, .i]), (.agg [.i, .i, .i, .i])]
noncomputable def box_Meet.sh : Sh := (.one (.agg [.i, .i, .i, .i]))
noncomputable def box_Meet.cf : Cfg := ⟨env, Try.f28.ntmps, Try.f28.results.toList, some box_Meet.sh, rel, [], []⟩
noncomputable def box_Meet.t : Tree := (.ask 31 [(.ex (.mx (.va 0) (.va 4))), (.ex (.mx (.va 1) (.va 5))), (.ex (.mn (.va 2) (.va 6))), (.ex (.mn (.va 3) (.va 7)))] [.b] (.ite (.va 8) (.ret [(.ex (.nu 0)), (.ex (.nu 0)), (.ex (.nu 0)), (.ex (.nu 0))]) (.ret [(.ex (.mx (.va 0) (.va 4))), (.ex (.mx (.va 1) (.va 5))), (.ex (.mn (.va 2) (.va 6))), (.ex (.mn (.va 3) (.va 7)))])))
def box_Meet.ra : Rw (Int × Int × Int × Int × Int × Int × Int × Int) := (rwP rwI (rwP rwI (rwP rwI (rwP rwI (rwP rwI (rwP rwI (rwP rwI rwI)))))))
def box_Meet.rr : Rw (Int × Int × Int × Int) := (rwP rwI (rwP rwI (rwP rwI rwI)))
theorem box_Meet.rr_en (r : Int × Int × Int × Int) : box_Meet.rr.en r = [.int r.1, .int r.2.1, .int r.2.2.1, .int r.2.2.2] := rfl
def box_Meet.f (a0_0 : Int) (a0_1 : Int) (a0_2 : Int) (a0_3 : Int) (a1_0 : Int) (a1_1 : Int) (a1_2 : Int) (a1_3 : Int) : Option (Int × Int × Int × Int) := ((box_Empty.f (mxi a0_0 a1_0) (mxi a0_1 a1_1) (mni a0_2 a1_2) (mni a0_3 a1_3)).bind fun b0 => (if b0 = true then some (0, 0, 0, 0) else some ((mxi a0_0 a1_0), (mxi a0_1 a1_1), (mni a0_2 a1_2), (mni a0_3 a1_3))))
def box_Meet.app : App := fun ps => (box_Meet.ra.de ps).bind fun x => (box_Meet.f x.1 x.2.1 x.2.2.1 x.2.2.2.1 x.2.2.2.2.1 x.2.2.2.2.2.1 x.2.2.2.2.2.2.1 x.2.2.2.2.2.2.2).map box_Meet.rr.en
theorem box_Meet.ap (a0_0 : Int) (a0_1 : Int) (a0_2 : Int) (a0_3 : Int) (a1_0 : Int) (a1_1 : Int) (a1_2 : Int) (a1_3 : Int) : box_Meet.app [.int a0_0, .int a0_1, .int a0_2, .int a0_3, .int a1_0, .int a1_1, .int a1_2, .int a1_3] = (box_Meet.f a0_0 a0_1 a0_2 a0_3 a1_0 a1_1 a1_2 a1_3).map box_Meet.rr.en := app_ap box_Meet.ra box_Meet.rr (fun x => box_Meet.f x.1 x.2.1 x.2.2.1 x.2.2.2.1 x.2.2.2.2.1 x.2.2.2.2.2.1 x.2.2.2.2.2.2.1 x.2.2.2.2.2.2.2) (a0_0, a0_1, a0_2, a0_3, a1_0, a1_1, a1_2, a1_3)
theorem box_Meet.is : FnIs Try.prog 28 (.init box_Meet.sg) box_Meet.t box_Meet.cf := ⟨Try.f28, box_Meet.body, 6000, Try.func28, by kernel_rfl, rfl, rfl, by decide +kernel, by kernel_rfl⟩
theorem box_Meet.den (F : FnE) (K : Nat) (h31 : F 31 = box_Empty.app) (a0_0 : Int) (a0_1 : Int) (a0_2 : Int) (a0_3 : Int) (a1_0 : Int) (a1_1 : Int) (a1_2 : Int) (a1_3 : Int) : Sy.den F K box_Meet.t [] [.int a0_0, .int a0_1, .int a0_2, .int a0_3, .int a1_0, .int a1_1, .int a1_2, .int a1_3] = (box_Meet.f a0_0 a0_1 a0_2 a0_3 a1_0 a1_1 a1_2 a1_3).map box_Meet.rr.en := by
  simp (maxSteps := 4000000) only [box_Meet.t, box_Meet.f, box_Meet.rr_en, h31, box_Empty.ap, box_Empty.rr_en, Sy.den, iterF, pds, PC.pd, E.ev, B.ev, SE.ev, LE.rows, lensEv, K4.oks, K4.ok, kSl_eq, kPt_eq, ov_prop, List.getElem?_cons_zero, List.getElem?_cons_succ, List.getElem?_map, List.cons_append, List.nil_append, List.append_nil, List.take_succ_cons, List.take_zero, List.length_map, Nat.add_zero, Nat.zero_add, Option.bind_some, Option.map_some, Option.map_none, Option.bind_none, bmap, mapb, ite_map, ite_true, Bool.true_and, Bool.and_true, Bool.and_self, decide_true, eq_self, if_true, mxi, mni, Subtype.eta, rw_iiii_en, rw_iiii_one, rw_iiii_cons, ← List.map_append]
theorem box_Meet.ok (F : FnE) (K : Nat) (h31 : F 31 = box_Empty.app) (ps r : List PD) (h : box_Meet.app ps = some r) : Sy.den F K box_Meet.t [] ps = some r := by
  obtain ⟨a, rfl, h2⟩ := app_ok (ra := box_Meet.ra) (rr := box_Meet.rr) (f := fun x => box_Meet.f x.1 x.2.1 x.2.2.1 x.2.2.2.1 x.2.2.2.2.1 x.2.2.2.2.2.1 x.2.2.2.2.2.2.1 x.2.2.2.2.2.2.2) h
  rw [← h2]
  exact box_Meet.den F K h31 (a.1) (a.2.1) (a.2.2.1) (a.2.2.2.1) (a.2.2.2.2.1) (a.2.2.2.2.2.1) (a.2.2.2.2.2.2.1) (a.2.2.2.2.2.2.2)
def l28 (K : Nat) : List (Nat × App) := (28, box_Meet.app) :: l23 K
theorem gd28 (K : Nat) : Sy.Good Try.prog fns (mkF (l28 K)) := good_cons (K := K) box_Meet.is rfl (by kernel_rfl) (by decide +kernel) envOk relOk relNp mix (gd23 K) (box_Meet.ok _ K rfl)
/-! ### gatherumlaw04_alive: function 22 -/
noncomputable def gatherumlaw04_alive.body : Code := Try.f22.body.getD .skip
noncomputable def gatherumlaw04_alive.sg : List S1 := []
noncomputable def gatherumlaw04_alive.sh : Sh := (.one (.one .b))
noncomputable def gatherumlaw04_alive.cf : Cfg := ⟨env, Try.f22.ntmps, Try.f22.results.toList, some gatherumlaw04_alive.sh, rel, [], []⟩
noncomputable def gatherumlaw04_alive.t : Tree := (.ask 28 [(.ex (.nu 0)), (.ex (.nu 0)), (.ex (.nu 4)), (.ex (.nu 4)), (.ex (.nu 2)), (.ex (.nu 3)), (.ex (.nu 9)), (.ex (.nu 9))] [.i, .i, .i, .i] (.ite (.and (.eq (.va 0) (.nu 2)) (.and (.eq (.va 1) (.nu 3)) (.and (.eq (.va 2) (.nu 4)) (.eq (.va 3) (.nu 4))))) (.ask 31 [(.ex (.va 0)), (.ex (.va 1)), (.ex (.va 2)), (.ex (.va 3))] [.b] (.ite (.not (.va 4)) (.ask 23 [(.ex (.va 0)), (.ex (.va 1)), (.ex (.va 2)), (.ex (.va 3)), (.bo (.co true)), (.ex (.nu 3))] [(.l 27 4)] (.ret [(.bo (.eq (.lens [5] 0) (.nu 2)))])) (.ret [(.bo (.co false))]))) (.ret [(.bo (.co false))])))
def gatherumlaw04_alive.ra : Rw (Unit) := rwU
def gatherumlaw04_alive.rr : Rw (Bool) := rwB
theorem gatherumlaw04_alive.rr_en (r : Bool) : gatherumlaw04_alive.rr.en r = [.bool r] := rfl
def gatherumlaw04_alive.f : Option (Bool) := ((box_Meet.f 0 0 4 4 2 3 9 9).bind fun b0 => (if ((b0.1 == 2) && ((b0.2.1 == 3) && ((b0.2.2.1 == 4) && (b0.2.2.2 == 4)))) = true then ((box_Empty.f b0.1 b0.2.1 b0.2.2.1 b0.2.2.2).bind fun b1 => (if (!b1) = true then ((box_Split.f b0.1 b0.2.1 b0.2.2.1 b0.2.2.2 true 3).bind fun b2 => some (((b2.length : Nat) : Int) == 2)) else some false)) else some false))
def gatherumlaw04_alive.app : App := fun ps => (gatherumlaw04_alive.ra.de ps).bind fun x => (gatherumlaw04_alive.f).map gatherumlaw04_alive.rr.en
theorem gatherumlaw04_alive.ap : gatherumlaw04_alive.app [] = (gatherumlaw04_alive.f).map gatherumlaw04_alive.rr.en := app_ap gatherumlaw04_alive.ra gatherumlaw04_alive.rr (fun x => gatherumlaw04_alive.f) ()
theorem gatherumlaw04_alive.is : FnIs Try.prog 22 (.init gatherumlaw04_alive.sg) gatherumlaw04_alive.t gatherumlaw04_alive.cf := ⟨Try.f22, gatherumlaw04_alive.body, 6000, Try.func22, by kernel_rfl, rfl, rfl, by decide +kernel, by kernel_rfl⟩
theorem gatherumlaw04_alive.den (F : FnE) (K : Nat) (h23 : F 23 = box_Split.app) (h28 : F 28 = box_Meet.app) (h31 : F 31 = box_Empty.app) : Sy.den F K gatherumlaw04_alive.t [] [] = (gatherumlaw04_alive.f).map gatherumlaw04_alive.rr.en := by
  simp (maxSteps := 4000000) only [gatherumlaw04_alive.t, gatherumlaw04_alive.f, gatherumlaw04_alive.rr_en, h23, box_Split.ap, box_Split.rr_en, h28, box_Meet.ap, box_Meet.rr_en, h31, box_Empty.ap, box_Empty.rr_en, Sy.den, iterF, pds, PC.pd, E.ev, B.ev, SE.ev, LE.rows, lensEv, K4.oks, K4.ok, kSl_eq, kPt_eq, ov_prop, List.getElem?_cons_zero, List.getElem?_cons_succ, List.getElem?_map, List.cons_append, List.nil_append, List.append_nil, List.take_succ_cons, List.take_zero, List.length_map, Nat.add_zero, Nat.zero_add, Option.bind_some, Option.map_some, Option.map_none, Option.bind_none, bmap, mapb, ite_map, ite_true, Bool.true_and, Bool.and_true, Bool.and_self, decide_true, eq_self, if_true, mxi, mni, Subtype.eta, rw_iiii_en, rw_iiii_one, rw_iiii_cons, ← List.map_append]
theorem gatherumlaw04_alive.ok (F : FnE) (K : Nat) (h23 : F 23 = box_Split.app) (h28 : F 28 = box_Meet.app) (h31 : F 31 = box_Empty.app) (ps r : List PD) (h : gatherumlaw04_alive.app ps = some r) : Sy.den F K gatherumlaw04_alive.t [] ps = some r := by
  obtain ⟨a, rfl, h2⟩ := app_ok (ra := gatherumlaw04_alive.ra) (rr := gatherumlaw04_alive.rr) (f := fun x => gatherumlaw04_alive.f) h
  rw [← h2]
  exact gatherumlaw04_alive.den F K h23 h28 h31
def l22 (K : Nat) : List (Nat × App) := (22, gatherumlaw04_alive.app) :: l28 K
theorem gd22 (K : Nat) : Sy.Good Try.prog fns (mkF (l22 K)) := good_cons (K := K) gatherumlaw04_alive.is rfl (by kernel_rfl) (by decide +kernel) envOk relOk relNp mix (gd28 K) (gatherumlaw04_alive.ok _ K rfl rfl rfl)
/-! ### gatherumref04_Empty: function 24 -/
noncomputable def gatherumref04_Empty.body : Code := Try.f24.body.getD .skip
noncomputable def gatherumref04_Empty.sg : List S1 := [(.agg [.i, .i, .i, .i])]
noncomputable def gatherumref04_Empty.sh : Sh := (.one (.one .b))
noncomputable def gatherumref04_Empty.cf : Cfg := ⟨env, Try.f24.ntmps, Try.f24.results.toList, some gatherumref04_Empty.sh, rel, [], []⟩
noncomputable def gatherumref04_Empty.t : Tree := (.ite (.le (.va 2) (.va 0)) (.ret [(.bo (.co true))]) (.ret [(.bo (.le (.va 3) (.va 1)))]))
def gatherumref04_Empty.ra : Rw (Int × Int × Int × Int) := (rwP rwI (rwP rwI (rwP rwI rwI)))
def gatherumref04_Empty.rr : Rw (Bool) := rwB
theorem gatherumref04_Empty.rr_en (r : Bool) : gatherumref04_Empty.rr.en r = [.bool r] := rfl
def gatherumref04_Empty.f (a0_0 : Int) (a0_1 : Int) (a0_2 : Int) (a0_3 : Int) : Option (Bool) := (if (decide (a0_2 ≤ a0_0)) = true then some true else some (decide (a0_3 ≤ a0_1)))
def gatherumref04_Empty.app : App := fun ps => (gatherumref04_Empty.ra.de ps).bind fun x => (gatherumref04_Empty.f x.1 x.2.1 x.2.2.1 x.2.2.2).map gatherumref04_Empty.rr.en
theorem gatherumref04_Empty.ap (a0_0 : Int) (a0_1 : Int) (a0_2 : Int) (a0_3 : Int) : gatherumref04_Empty.app [.int a0_0, .int a0_1, .int a0_2, .int a0_3] = (gatherumref04_Empty.f a0_0 a0_1 a0_2 a0_3).map gatherumref04_Empty.rr.en := app_ap gatherumref04_Empty.ra gatherumref04_Empty.rr (fun x => gatherumref04_Empty.f x.1 x.2.1 x.2.2.1 x.2.2.2) (a0_0, a0_1, a0_2, a0_3)
theorem gatherumref04_Empty.is : FnIs Try.prog 24 (.init gatherumref04_Empty.sg) gatherumref04_Empty.t gatherumref04_Empty.cf := ⟨Try.f24, gatherumref04_Empty.body, 6000, Try.func24, by kernel_rfl, rfl, rfl, by decide +kernel, by kernel_rfl⟩
theorem gatherumref04_Empty.den (F : FnE) (K : Nat) (a0_0 : Int) (a0_1 : Int) (a0_2 : Int) (a0_3 : Int) : Sy.den F K gatherumref04_Empty.t [] [.int a0_0, .int a0_1, .int a0_2, .int a0_3] = (gatherumref04_Empty.f a0_0 a0_1 a0_2 a0_3).map gatherumref04_Empty.rr.en := by
  simp (maxSteps := 4000000) only [gatherumref04_Empty.t, gatherumref04_Empty.f, gatherumref04_Empty.rr_en, Sy.den, iterF, pds, PC.pd, E.ev, B.ev, SE.ev, LE.rows, lensEv, K4.oks, K4.ok, kSl_eq, kPt_eq, ov_prop, List.getElem?_cons_zero, List.getElem?_cons_succ, List.getElem?_map, List.cons_append, List.nil_append, List.append_nil, List.take_succ_cons, List.take_zero, List.length_map, Nat.add_zero, Nat.zero_add, Option.bind_some, Option.map_some, Option.map_none, Option.bind_none, bmap, mapb, ite_map, ite_true, Bool.true_and, Bool.and_true, Bool.and_self, decide_true, eq_self, if_true, mxi, mni, Subtype.eta, rw_iiii_en, rw_iiii_one, rw_iiii_cons, ← List.map_append]
theorem gatherumref04_Empty.ok (F : FnE) (K : Nat) (ps r : List PD) (h : gatherumref04_Empty.app ps = some r) : Sy.den F K gatherumref04_Empty.t [] ps = some r := by
  obtain ⟨a, rfl, h2⟩ := app_ok (ra := gatherumref04_Empty.ra) (rr := gatherumref04_Empty.rr) (f := fun x => gatherumref04_Empty.f x.1 x.2.1 x.2.2.1 x.2.2.2) h
  rw [← h2]
  exact gatherumref04_Empty.den F K (a.1) (a.2.1) (a.2.2.1) (a.2.2.2)
def l24 (K : Nat) : List (Nat × App) := (24, gatherumref04_Empty.app) :: l22 K
theorem gd24 (K : Nat) : Sy.Good Try.prog fns (mkF (l24 K)) := good_cons (K := K) gatherumref04_Empty.is rfl (by kernel_rfl) (by decide +kernel) envOk relOk relNp mix (gd22 K) (gatherumref04_Empty.ok _ K)
/-! ### gatherumref04_Within: function 33 -/
noncomputable def gatherumref04_Within.body : Code := Try.f33.body.getD .skip
noncomputable def gatherumref04_Within.sg : List S1 := [(.agg [.i, .i, .i, .i]), (.agg [.i, .i, .i, .i])]
noncomputable def gatherumref04_Within.sh : Sh := (.one (.one .b))
noncomputable def gatherumref04_Within.cf : Cfg := ⟨env, Try.f33.ntmps, Try.f33.results.toList, some gatherumref04_Within.sh, rel, [], []⟩
noncomputable def gatherumref04_Within.t : Tree := (.ask 24 [(.ex (.va 0)), (.ex (.va 1)), (.ex (.va 2)), (.ex (.va 3))] [.b] (.ite (.va 8) (.ret [(.bo (.co true))]) (.ite (.le (.va 4) (.va 0)) (.ite (.le (.va 2) (.va 6)) (.ite (.le (.va 5) (.va 1)) (.ret [(.bo (.le (.va 3) (.va 7)))]) (.ret [(.bo (.co false))])) (.ret [(.bo (.co false))])) (.ret [(.bo (.co false))]))))
def gatherumref04_Within.ra : Rw (Int × Int × Int × Int × Int × Int × Int × Int) := (rwP rwI (rwP rwI (rwP rwI (rwP rwI (rwP rwI (rwP rwI (rwP rwI rwI)))))))
def gatherumref04_Within.rr : Rw (Bool) := rwB
theorem gatherumref04_Within.rr_en (r : Bool) : gatherumref04_Within.rr.en r = [.bool r] := rfl
def gatherumref04_Within.f (a0_0 : Int) (a0_1 : Int) (a0_2 : Int) (a0_3 : Int) (a1_0 : Int) (a1_1 : Int) (a1_2 : Int) (a1_3 : Int) : Option (Bool) := ((gatherumref04_Empty.f a0_0 a0_1 a0_2 a0_3).bind fun b0 => (if b0 = true then some true else (if (decide (a1_0 ≤ a0_0)) = true then (if (decide (a0_2 ≤ a1_2)) = true then (if (decide (a1_1 ≤ a0_1)) = true then some (decide (a0_3 ≤ a1_3)) else some false) else some false) else some false)))
def gatherumref04_Within.app : App := fun ps => (gatherumref04_Within.ra.de ps).bind fun x => (gatherumref04_Within.f x.1 x.2.1 x.2.2.1 x.2.2.2.1 x.2.2.2.2.1 x.2.2.2.2.2.1 x.2.2.2.2.2.2.1 x.2.2.2.2.2.2.2).map gatherumref04_Within.rr.en
theorem gatherumref04_Within.ap (a0_0 : Int) (a0_1 : Int) (a0_2 : Int) (a0_3 : Int) (a1_0 : Int) (a1_1 : Int) (a1_2 : Int) (a1_3 : Int) : gatherumref04_Within.app [.int a0_0, .int a0_1, .int a0_2, .int a0_3, .int a1_0, .int a1_1, .int a1_2, .int a1_3] = (gatherumref04_Within.f a0_0 a0_1 a0_2 a0_3 a1_0 a1_1 a1_2 a1_3).map gatherumref04_Within.rr.en := app_ap gatherumref04_Within.ra gatherumref04_Within.rr (fun x => gatherumref04_Within.f x.1 x.2.1 x.2.2.1 x.2.2.2.1 x.2.2.2.2.1 x.2.2.2.2.2.1 x.2.2.2.2.2.2.1 x.2.2.2.2.2.2.2) (a0_0, a0_1, a0_2, a0_3, a1_0, a1_1, a1_2, a1_3)
theorem gatherumref04_Within.is : FnIs Try.prog 33 (.init gatherumref04_Within.sg) gatherumref04_Within.t gatherumref04_Within.cf := ⟨Try.f33, gatherumref04_Within.body, 6000, Try.func33, by kernel_rfl, rfl, rfl, by decide +kernel, by kernel_rfl⟩
theorem gatherumref04_Within.den (F : FnE) (K : Nat) (h24 : F 24 = gatherumref04_Empty.app) (a0_0 : Int) (a0_1 : Int) (a0_2 : Int) (a0_3 : Int) (a1_0 : Int) (a1_1 : Int) (a1_2 : Int) (a1_3 : Int) : Sy.den F K gatherumref04_Within.t [] [.int a0_0, .int a0_1, .int a0_2, .int a0_3, .int a1_0, .int a1_1, .int a1_2, .int a1_3] = (gatherumref04_Within.f a0_0 a0_1 a0_2 a0_3 a1_0 a1_1 a1_2 a1_3).map gatherumref04_Within.rr.en := by
  simp (maxSteps := 4000000) only [gatherumref04_Within.t, gatherumref04_Within.f, gatherumref04_Within.rr_en, h24, gatherumref04_Empty.ap, gatherumref04_Empty.rr_en, Sy.den, iterF, pds, PC.pd, E.ev, B.ev, SE.ev, LE.rows, lensEv, K4.oks, K4.ok, kSl_eq, kPt_eq, ov_prop, List.getElem?_cons_zero, List.getElem?_cons_succ, List.getElem?_map, List.cons_append, List.nil_append, List.append_nil, List.take_succ_cons, List.take_zero, List.length_map, Nat.add_zero, Nat.zero_add, Option.bind_some, Option.map_some, Option.map_none, Option.bind_none, bmap, mapb, ite_map, ite_true, Bool.true_and, Bool.and_true, Bool.and_self, decide_true, eq_self, if_true, mxi, mni, Subtype.eta, rw_iiii_en, rw_iiii_one, rw_iiii_cons, ← List.map_append]
theorem gatherumref04_Within.ok (F : FnE) (K : Nat) (h24 : F 24 = gatherumref04_Empty.app) (ps r : List PD) (h : gatherumref04_Within.app ps = some r) : Sy.den F K gatherumref04_Within.t [] ps = some r := by
  obtain ⟨a, rfl, h2⟩ := app_ok (ra := gatherumref04_Within.ra) (rr := gatherumref04_Within.rr) (f := fun x => gatherumref04_Within.f x.1 x.2.1 x.2.2.1 x.2.2.2.1 x.2.2.2.2.1 x.2.2.2.2.2.1 x.2.2.2.2.2.2.1 x.2.2.2.2.2.2.2) h
  rw [← h2]
  exact gatherumref04_Within.den F K h24 (a.1) (a.2.1) (a.2.2.1) (a.2.2.2.1) (a.2.2.2.2.1) (a.2.2.2.2.2.1) (a.2.2.2.2.2.2.1) (a.2.2.2.2.2.2.2)
def l33 (K : Nat) : List (Nat × App) := (33, gatherumref04_Within.app) :: l24 K
theorem gd33 (K : Nat) : Sy.Good Try.prog fns (mkF (l33 K)) := good_cons (K := K) gatherumref04_Within.is rfl (by kernel_rfl) (by decide +kernel) envOk relOk relNp mix (gd24 K) (gatherumref04_Within.ok _ K rfl)
/-! ### box_Hull: function 52 -/
noncomputable def box_Hull.body : Code := Try.f52.body.getD .skip
noncomputable def box_Hull.sg : List S1 := [(.one (.l 27 4))]
noncomputable def box_Hull.sh : Sh := (.one (.agg [.i, .i, .i, .i]))
noncomputable def box_Hull.cf : Cfg := ⟨env, Try.f52.ntmps, Try.f52.results.toList, some box_Hull.sh, rel, [3], [((3, 322, 1), ⟨[], [], [(8, [(0, .i), (0, .i)])], [(66, [(0, .i), (1, .i), (2, .i), (3, .i)])]⟩)]⟩
noncomputable def box_Hull.b0 : Tree := (.ite (.lt (.va 1) (.lens [0] 0)) (.ite (.le (.nu 0) (.va 1)) (.get 0 (.va 1) [.i, .i, .i, .i] (.ask 31 [(.ex (.va 6)), (.ex (.va 7)), (.ex (.va 8)), (.ex (.va 9))] [.b] (.ite (.va 10) (.back 0 1 [(.ex (.add (.va 1) (.nu 1))), (.ex (.va 2)), (.ex (.va 3)), (.ex (.va 4)), (.ex (.va 5))]) (.ite (.and (.eq (.va 2) (.nu 0)) (.and (.eq (.va 3) (.nu 0)) (.and (.eq (.va 4) (.nu 0)) (.eq (.va 5) (.nu 0))))) (.back 0 1 [(.ex (.add (.va 1) (.nu 1))), (.ex (.va 6)), (.ex (.va 7)), (.ex (.va 8)), (.ex (.va 9))]) (.back 0 1 [(.ex (.add (.va 1) (.nu 1))), (.ex (.mn (.va 2) (.va 6))), (.ex (.mn (.va 3) (.va 7))), (.ex (.mx (.va 4) (.va 8))), (.ex (.mx (.va 5) (.va 9)))]))))) .bad) (.ret [(.ex (.va 2)), (.ex (.va 3)), (.ex (.va 4)), (.ex (.va 5))]))
noncomputable def box_Hull.t : Tree := (.loop [(.ex (.nu 0)), (.ex (.nu 0)), (.ex (.nu 0)), (.ex (.nu 0)), (.ex (.nu 0))] [.i, .i, .i, .i, .i] box_Hull.b0)
def box_Hull.ra : Rw (List (Int × Int × Int × Int)) := (rwL 27 4 rw_iiii rfl)
def box_Hull.rr : Rw (Int × Int × Int × Int) := (rwP rwI (rwP rwI (rwP rwI rwI)))
theorem box_Hull.rr_en (r : Int × Int × Int × Int) : box_Hull.rr.en r = [.int r.1, .int r.2.1, .int r.2.2.1, .int r.2.2.2] := rfl
def box_Hull.l0 (p0 : List (Int × Int × Int × Int)) : Nat → (Int) → (Int) → (Int) → (Int) → (Int) → Option (Int × Int × Int × Int)
  | 0, _, _, _, _, _ => none
  | k + 1, x0, x1, x2, x3, x4 => (if (decide (x0 < ((p0.length : Nat) : Int))) = true then (if (decide (0 ≤ x0)) = true then ((p0[(x0 : Int).toNat]?).bind fun b0 => ((box_Empty.f b0.1 b0.2.1 b0.2.2.1 b0.2.2.2).bind fun b1 => (if b1 = true then (box_Hull.l0 p0 k (wrap64 (x0 + 1)) x1 x2 x3 x4) else (if ((x1 == 0) && ((x2 == 0) && ((x3 == 0) && (x4 == 0)))) = true then (box_Hull.l0 p0 k (wrap64 (x0 + 1)) b0.1 b0.2.1 b0.2.2.1 b0.2.2.2) else (box_Hull.l0 p0 k (wrap64 (x0 + 1)) (mni x1 b0.1) (mni x2 b0.2.1) (mxi x3 b0.2.2.1) (mxi x4 b0.2.2.2)))))) else none) else some (x1, x2, x3, x4))
def box_Hull.f (K : Nat) (a0 : List (Int × Int × Int × Int)) : Option (Int × Int × Int × Int) := (box_Hull.l0 a0 K 0 0 0 0 0)
def box_Hull.app (K : Nat) : App := fun ps => (box_Hull.ra.de ps).bind fun x => (box_Hull.f K x).map box_Hull.rr.en
theorem box_Hull.ap (K : Nat) (a0 : List (Int × Int × Int × Int)) : box_Hull.app K [.lst 4 (a0.map rw_iiii.en)] = (box_Hull.f K a0).map box_Hull.rr.en := app_ap box_Hull.ra box_Hull.rr (fun x => box_Hull.f K x) (a0)
theorem box_Hull.is : FnIs Try.prog 52 (.init box_Hull.sg) box_Hull.t box_Hull.cf := ⟨Try.f52, box_Hull.body, 6000, Try.func52, by kernel_rfl, rfl, rfl, by decide +kernel, by kernel_rfl⟩
theorem box_Hull.l0_den (F : FnE) (K : Nat) (h31 : F 31 = box_Empty.app) (Js : List (List PD → Option (List PD))) (p0 : List (Int × Int × Int × Int)) : ∀ (k : Nat) (x0 : Int) (x1 : Int) (x2 : Int) (x3 : Int) (x4 : Int), iterF (fun J ρ' => den F K box_Hull.b0 (J :: Js) ρ') k [.lst 4 (p0.map rw_iiii.en), .int x0, .int x1, .int x2, .int x3, .int x4] = (box_Hull.l0 p0 k x0 x1 x2 x3 x4).map box_Hull.rr.en := by
  intro k
  induction k with
  | zero => intros; rfl
  | succ k ih =>
    intro x0 x1 x2 x3 x4
    show Sy.den F K box_Hull.b0 (iterF (fun J ρ' => Sy.den F K box_Hull.b0 (J :: Js) ρ') k :: Js) [.lst 4 (p0.map rw_iiii.en), .int x0, .int x1, .int x2, .int x3, .int x4] = _
    revert ih
    generalize iterF (fun J ρ' => Sy.den F K box_Hull.b0 (J :: Js) ρ') k = J0
    intro ih
    simp (maxSteps := 4000000) only [box_Hull.b0, box_Hull.l0, box_Hull.rr_en, h31, box_Empty.ap, box_Empty.rr_en, ih, Sy.den, iterF, pds, PC.pd, E.ev, B.ev, SE.ev, LE.rows, lensEv, K4.oks, K4.ok, kSl_eq, kPt_eq, ov_prop, List.getElem?_cons_zero, List.getElem?_cons_succ, List.getElem?_map, List.cons_append, List.nil_append, List.append_nil, List.take_succ_cons, List.take_zero, List.length_map, Nat.add_zero, Nat.zero_add, Option.bind_some, Option.map_some, Option.map_none, Option.bind_none, bmap, mapb, ite_map, ite_true, Bool.true_and, Bool.and_true, Bool.and_self, decide_true, eq_self, if_true, mxi, mni, Subtype.eta, rw_iiii_en, rw_iiii_one, rw_iiii_cons, ← List.map_append]
theorem box_Hull.den (F : FnE) (K : Nat) (h31 : F 31 = box_Empty.app) (a0 : List (Int × Int × Int × Int)) : Sy.den F K box_Hull.t [] [.lst 4 (a0.map rw_iiii.en)] = (box_Hull.f K a0).map box_Hull.rr.en := by
  simp (maxSteps := 4000000) only [box_Hull.t, box_Hull.f, box_Hull.rr_en, h31, box_Empty.ap, box_Empty.rr_en, box_Hull.l0_den F K h31 [], Sy.den, iterF, pds, PC.pd, E.ev, B.ev, SE.ev, LE.rows, lensEv, K4.oks, K4.ok, kSl_eq, kPt_eq, ov_prop, List.getElem?_cons_zero, List.getElem?_cons_succ, List.getElem?_map, List.cons_append, List.nil_append, List.append_nil, List.take_succ_cons, List.take_zero, List.length_map, Nat.add_zero, Nat.zero_add, Option.bind_some, Option.map_some, Option.map_none, Option.bind_none, bmap, mapb, ite_map, ite_true, Bool.true_and, Bool.and_true, Bool.and_self, decide_true, eq_self, if_true, mxi, mni, Subtype.eta, rw_iiii_en, rw_iiii_one, rw_iiii_cons, ← List.map_append]
theorem box_Hull.ok (F : FnE) (K : Nat) (h31 : F 31 = box_Empty.app) (ps r : List PD) (h : box_Hull.app K ps = some r) : Sy.den F K box_Hull.t [] ps = some r := by
  obtain ⟨a, rfl, h2⟩ := app_ok (ra := box_Hull.ra) (rr := box_Hull.rr) (f := fun x => box_Hull.f K x) h
  rw [← h2]
  exact box_Hull.den F K h31 a
def l52 (K : Nat) : List (Nat × App) := (52, box_Hull.app K) :: l33 K
theorem gd52 (K : Nat) : Sy.Good Try.prog fns (mkF (l52 K)) := good_cons (K := K) box_Hull.is rfl (by kernel_rfl) (by decide +kernel) envOk relOk relNp mix (gd33 K) (box_Hull.ok _ K rfl)
/-! ### gatherumlaw04_BoxHulls: function 12 -/
noncomputable def gatherumlaw04_BoxHulls.body : Code := Try.f12.body.getD .skip
noncomputable def gatherumlaw04_BoxHulls.sg : List S1 := [(.one (.l 27 4))]
noncomputable def gatherumlaw04_BoxHulls.sh : Sh := (.one (.one .b))
noncomputable def gatherumlaw04_BoxHulls.cf : Cfg := ⟨env, Try.f12.ntmps, Try.f12.results.toList, some gatherumlaw04_BoxHulls.sh, rel, [9], [((9, 834, 6), ⟨[], [], [(6, [(0, .i), (0, .i)]), (4, [(0, .b)])], [(706, [(0, .b), (1, .b), (2, .b), (3, .b)])]⟩)]⟩
noncomputable def gatherumlaw04_BoxHulls.b0 : Tree := (.ite (.lt (.va 6) (.lens [0] 0)) (.ite (.le (.nu 0) (.va 6)) (.get 0 (.va 6) [.i, .i, .i, .i] (.ask 24 [(.ex (.va 12)), (.ex (.va 13)), (.ex (.va 14)), (.ex (.va 15))] [.b] (.ite (.va 16) (.back 0 6 [(.ex (.add (.va 6) (.nu 1))), (.bo (.va 7)), (.bo (.va 8)), (.bo (.va 9)), (.bo (.va 10)), (.bo (.va 11))]) (.ask 33 [(.ex (.va 12)), (.ex (.va 13)), (.ex (.va 14)), (.ex (.va 15)), (.ex (.va 2)), (.ex (.va 3)), (.ex (.va 4)), (.ex (.va 5))] [.b] (.ite (.not (.va 17)) (.ret [(.bo (.co false))]) (.ite (.va 8) (.ite (.va 9) (.ite (.va 10) (.ite (.va 11) (.back 0 6 [(.ex (.add (.va 6) (.nu 1))), (.bo (.co true)), (.bo (.co true)), (.bo (.co true)), (.bo (.co true)), (.bo (.co true))]) (.back 0 6 [(.ex (.add (.va 6) (.nu 1))), (.bo (.co true)), (.bo (.co true)), (.bo (.co true)), (.bo (.co true)), (.bo (.eq (.va 15) (.va 5)))])) (.ite (.va 11) (.back 0 6 [(.ex (.add (.va 6) (.nu 1))), (.bo (.co true)), (.bo (.co true)), (.bo (.co true)), (.bo (.eq (.va 14) (.va 4))), (.bo (.co true))]) (.back 0 6 [(.ex (.add (.va 6) (.nu 1))), (.bo (.co true)), (.bo (.co true)), (.bo (.co true)), (.bo (.eq (.va 14) (.va 4))), (.bo (.eq (.va 15) (.va 5)))]))) (.ite (.va 10) (.ite (.va 11) (.back 0 6 [(.ex (.add (.va 6) (.nu 1))), (.bo (.co true)), (.bo (.co true)), (.bo (.eq (.va 13) (.va 3))), (.bo (.co true)), (.bo (.co true))]) (.back 0 6 [(.ex (.add (.va 6) (.nu 1))), (.bo (.co true)), (.bo (.co true)), (.bo (.eq (.va 13) (.va 3))), (.bo (.co true)), (.bo (.eq (.va 15) (.va 5)))])) (.ite (.va 11) (.back 0 6 [(.ex (.add (.va 6) (.nu 1))), (.bo (.co true)), (.bo (.co true)), (.bo (.eq (.va 13) (.va 3))), (.bo (.eq (.va 14) (.va 4))), (.bo (.co true))]) (.back 0 6 [(.ex (.add (.va 6) (.nu 1))), (.bo (.co true)), (.bo (.co true)), (.bo (.eq (.va 13) (.va 3))), (.bo (.eq (.va 14) (.va 4))), (.bo (.eq (.va 15) (.va 5)))])))) (.ite (.va 9) (.ite (.va 10) (.ite (.va 11) (.back 0 6 [(.ex (.add (.va 6) (.nu 1))), (.bo (.co true)), (.bo (.eq (.va 12) (.va 2))), (.bo (.co true)), (.bo (.co true)), (.bo (.co true))]) (.back 0 6 [(.ex (.add (.va 6) (.nu 1))), (.bo (.co true)), (.bo (.eq (.va 12) (.va 2))), (.bo (.co true)), (.bo (.co true)), (.bo (.eq (.va 15) (.va 5)))])) (.ite (.va 11) (.back 0 6 [(.ex (.add (.va 6) (.nu 1))), (.bo (.co true)), (.bo (.eq (.va 12) (.va 2))), (.bo (.co true)), (.bo (.eq (.va 14) (.va 4))), (.bo (.co true))]) (.back 0 6 [(.ex (.add (.va 6) (.nu 1))), (.bo (.co true)), (.bo (.eq (.va 12) (.va 2))), (.bo (.co true)), (.bo (.eq (.va 14) (.va 4))), (.bo (.eq (.va 15) (.va 5)))]))) (.ite (.va 10) (.ite (.va 11) (.back 0 6 [(.ex (.add (.va 6) (.nu 1))), (.bo (.co true)), (.bo (.eq (.va 12) (.va 2))), (.bo (.eq (.va 13) (.va 3))), (.bo (.co true)), (.bo (.co true))]) (.back 0 6 [(.ex (.add (.va 6) (.nu 1))), (.bo (.co true)), (.bo (.eq (.va 12) (.va 2))), (.bo (.eq (.va 13) (.va 3))), (.bo (.co true)), (.bo (.eq (.va 15) (.va 5)))])) (.ite (.va 11) (.back 0 6 [(.ex (.add (.va 6) (.nu 1))), (.bo (.co true)), (.bo (.eq (.va 12) (.va 2))), (.bo (.eq (.va 13) (.va 3))), (.bo (.eq (.va 14) (.va 4))), (.bo (.co true))]) (.back 0 6 [(.ex (.add (.va 6) (.nu 1))), (.bo (.co true)), (.bo (.eq (.va 12) (.va 2))), (.bo (.eq (.va 13) (.va 3))), (.bo (.eq (.va 14) (.va 4))), (.bo (.eq (.va 15) (.va 5)))])))))))))) .bad) (.ite (.not (.va 7)) (.ret [(.bo (.and (.eq (.va 2) (.nu 0)) (.and (.eq (.va 3) (.nu 0)) (.and (.eq (.va 4) (.nu 0)) (.eq (.va 5) (.nu 0))))))]) (.ret [(.bo (.and (.va 8) (.and (.va 9) (.and (.va 10) (.va 11)))))])))
noncomputable def gatherumlaw04_BoxHulls.t : Tree := (.ask 22 [] [.b] (.ite (.not (.va 1)) (.ret [(.bo (.co false))]) (.ite (.lt (.nu 40) (.lens [0] 0)) (.ret [(.bo (.co true))]) (.ask 52 [(.li 0)] [.i, .i, .i, .i] (.loop [(.ex (.nu 0)), (.bo (.co false)), (.bo (.co false)), (.bo (.co false)), (.bo (.co false)), (.bo (.co false))] [.i, .b, .b, .b, .b, .b] gatherumlaw04_BoxHulls.b0)))))
def gatherumlaw04_BoxHulls.ra : Rw (List (Int × Int × Int × Int)) := (rwL 27 4 rw_iiii rfl)
def gatherumlaw04_BoxHulls.rr : Rw (Bool) := rwB
theorem gatherumlaw04_BoxHulls.rr_en (r : Bool) : gatherumlaw04_BoxHulls.rr.en r = [.bool r] := rfl
def gatherumlaw04_BoxHulls.l0 (p0 : List (Int × Int × Int × Int)) (p2 : Int) (p3 : Int) (p4 : Int) (p5 : Int) : Nat → (Int) → (Bool) → (Bool) → (Bool) → (Bool) → (Bool) → Option (Bool)
  | 0, _, _, _, _, _, _ => none
  | k + 1, x0, x1, x2, x3, x4, x5 => (if (decide (x0 < ((p0.length : Nat) : Int))) = true then (if (decide (0 ≤ x0)) = true then ((p0[(x0 : Int).toNat]?).bind fun b0 => ((gatherumref04_Empty.f b0.1 b0.2.1 b0.2.2.1 b0.2.2.2).bind fun b1 => (if b1 = true then (gatherumlaw04_BoxHulls.l0 p0 p2 p3 p4 p5 k (wrap64 (x0 + 1)) x1 x2 x3 x4 x5) else ((gatherumref04_Within.f b0.1 b0.2.1 b0.2.2.1 b0.2.2.2 p2 p3 p4 p5).bind fun b2 => (if (!b2) = true then some false else (if x2 = true then (if x3 = true then (if x4 = true then (if x5 = true then (gatherumlaw04_BoxHulls.l0 p0 p2 p3 p4 p5 k (wrap64 (x0 + 1)) true true true true true) else (gatherumlaw04_BoxHulls.l0 p0 p2 p3 p4 p5 k (wrap64 (x0 + 1)) true true true true (b0.2.2.2 == p5))) else (if x5 = true then (gatherumlaw04_BoxHulls.l0 p0 p2 p3 p4 p5 k (wrap64 (x0 + 1)) true true true (b0.2.2.1 == p4) true) else (gatherumlaw04_BoxHulls.l0 p0 p2 p3 p4 p5 k (wrap64 (x0 + 1)) true true true (b0.2.2.1 == p4) (b0.2.2.2 == p5)))) else (if x4 = true then (if x5 = true then (gatherumlaw04_BoxHulls.l0 p0 p2 p3 p4 p5 k (wrap64 (x0 + 1)) true true (b0.2.1 == p3) true true) else (gatherumlaw04_BoxHulls.l0 p0 p2 p3 p4 p5 k (wrap64 (x0 + 1)) true true (b0.2.1 == p3) true (b0.2.2.2 == p5))) else (if x5 = true then (gatherumlaw04_BoxHulls.l0 p0 p2 p3 p4 p5 k (wrap64 (x0 + 1)) true true (b0.2.1 == p3) (b0.2.2.1 == p4) true) else (gatherumlaw04_BoxHulls.l0 p0 p2 p3 p4 p5 k (wrap64 (x0 + 1)) true true (b0.2.1 == p3) (b0.2.2.1 == p4) (b0.2.2.2 == p5))))) else (if x3 = true then (if x4 = true then (if x5 = true then (gatherumlaw04_BoxHulls.l0 p0 p2 p3 p4 p5 k (wrap64 (x0 + 1)) true (b0.1 == p2) true true true) else (gatherumlaw04_BoxHulls.l0 p0 p2 p3 p4 p5 k (wrap64 (x0 + 1)) true (b0.1 == p2) true true (b0.2.2.2 == p5))) else (if x5 = true then (gatherumlaw04_BoxHulls.l0 p0 p2 p3 p4 p5 k (wrap64 (x0 + 1)) true (b0.1 == p2) true (b0.2.2.1 == p4) true) else (gatherumlaw04_BoxHulls.l0 p0 p2 p3 p4 p5 k (wrap64 (x0 + 1)) true (b0.1 == p2) true (b0.2.2.1 == p4) (b0.2.2.2 == p5)))) else (if x4 = true then (if x5 = true then (gatherumlaw04_BoxHulls.l0 p0 p2 p3 p4 p5 k (wrap64 (x0 + 1)) true (b0.1 == p2) (b0.2.1 == p3) true true) else (gatherumlaw04_BoxHulls.l0 p0 p2 p3 p4 p5 k (wrap64 (x0 + 1)) true (b0.1 == p2) (b0.2.1 == p3) true (b0.2.2.2 == p5))) else (if x5 = true then (gatherumlaw04_BoxHulls.l0 p0 p2 p3 p4 p5 k (wrap64 (x0 + 1)) true (b0.1 == p2) (b0.2.1 == p3) (b0.2.2.1 == p4) true) else (gatherumlaw04_BoxHulls.l0 p0 p2 p3 p4 p5 k (wrap64 (x0 + 1)) true (b0.1 == p2) (b0.2.1 == p3) (b0.2.2.1 == p4) (b0.2.2.2 == p5))))))))))) else none) else (if (!x1) = true then some ((p2 == 0) && ((p3 == 0) && ((p4 == 0) && (p5 == 0)))) else some (x2 && (x3 && (x4 && x5)))))
def gatherumlaw04_BoxHulls.f (K : Nat) (a0 : List (Int × Int × Int × Int)) : Option (Bool) := ((gatherumlaw04_alive.f).bind fun b0 => (if (!b0) = true then some false else (if (decide (40 < ((a0.length : Nat) : Int))) = true then some true else ((box_Hull.f K a0).bind fun b1 => (gatherumlaw04_BoxHulls.l0 a0 b1.1 b1.2.1 b1.2.2.1 b1.2.2.2 K 0 false false false false false)))))
def gatherumlaw04_BoxHulls.app (K : Nat) : App := fun ps => (gatherumlaw04_BoxHulls.ra.de ps).bind fun x => (gatherumlaw04_BoxHulls.f K x).map gatherumlaw04_BoxHulls.rr.en
theorem gatherumlaw04_BoxHulls.ap (K : Nat) (a0 : List (Int × Int × Int × Int)) : gatherumlaw04_BoxHulls.app K [.lst 4 (a0.map rw_iiii.en)] = (gatherumlaw04_BoxHulls.f K a0).map gatherumlaw04_BoxHulls.rr.en := app_ap gatherumlaw04_BoxHulls.ra gatherumlaw04_BoxHulls.rr (fun x => gatherumlaw04_BoxHulls.f K x) (a0)
theorem gatherumlaw04_BoxHulls.is : FnIs Try.prog 12 (.init gatherumlaw04_BoxHulls.sg) gatherumlaw04_BoxHulls.t gatherumlaw04_BoxHulls.cf := ⟨Try.f12, gatherumlaw04_BoxHulls.body, 6000, Try.func12, by kernel_rfl, rfl, rfl, by decide +kernel, by kernel_rfl⟩
theorem gatherumlaw04_BoxHulls.l0_den (F : FnE) (K : Nat) (h22 : F 22 = gatherumlaw04_alive.app) (h24 : F 24 = gatherumref04_Empty.app) (h33 : F 33 = gatherumref04_Within.app) (h52 : F 52 = box_Hull.app K) (Js : List (List PD → Option (List PD))) (p0 : List (Int × Int × Int × Int)) (p1 : Bool) (p2 : Int) (p3 : Int) (p4 : Int) (p5 : Int) : ∀ (k : Nat) (x0 : Int) (x1 : Bool) (x2 : Bool) (x3 : Bool) (x4 : Bool) (x5 : Bool), iterF (fun J ρ' => den F K gatherumlaw04_BoxHulls.b0 (J :: Js) ρ') k [.lst 4 (p0.map rw_iiii.en), .bool p1, .int p2, .int p3, .int p4, .int p5, .int x0, .bool x1, .bool x2, .bool x3, .bool x4, .bool x5] = (gatherumlaw04_BoxHulls.l0 p0 p2 p3 p4 p5 k x0 x1 x2 x3 x4 x5).map gatherumlaw04_BoxHulls.rr.en := by
  intro k
  induction k with
  | zero => intros; rfl
  | succ k ih =>
    intro x0 x1 x2 x3 x4 x5
    show Sy.den F K gatherumlaw04_BoxHulls.b0 (iterF (fun J ρ' => Sy.den F K gatherumlaw04_BoxHulls.b0 (J :: Js) ρ') k :: Js) [.lst 4 (p0.map rw_iiii.en), .bool p1, .int p2, .int p3, .int p4, .int p5, .int x0, .bool x1, .bool x2, .bool x3, .bool x4, .bool x5] = _
    revert ih
    generalize iterF (fun J ρ' => Sy.den F K gatherumlaw04_BoxHulls.b0 (J :: Js) ρ') k = J0
    intro ih
    simp (maxSteps := 4000000) only [gatherumlaw04_BoxHulls.b0, gatherumlaw04_BoxHulls.l0, gatherumlaw04_BoxHulls.rr_en, h22, gatherumlaw04_alive.ap, gatherumlaw04_alive.rr_en, h24, gatherumref04_Empty.ap, gatherumref04_Empty.rr_en, h33, gatherumref04_Within.ap, gatherumref04_Within.rr_en, h52, box_Hull.ap, box_Hull.rr_en, ih, Sy.den, iterF, pds, PC.pd, E.ev, B.ev, SE.ev, LE.rows, lensEv, K4.oks, K4.ok, kSl_eq, kPt_eq, ov_prop, List.getElem?_cons_zero, List.getElem?_cons_succ, List.getElem?_map, List.cons_append, List.nil_append, List.append_nil, List.take_succ_cons, List.take_zero, List.length_map, Nat.add_zero, Nat.zero_add, Option.bind_some, Option.map_some, Option.map_none, Option.bind_none, bmap, mapb, ite_map, ite_true, Bool.true_and, Bool.and_true, Bool.and_self, decide_true, eq_self, if_true, mxi, mni, Subtype.eta, rw_iiii_en, rw_iiii_one, rw_iiii_cons, ← List.map_append]
theorem gatherumlaw04_BoxHulls.den (F : FnE) (K : Nat) (h22 : F 22 = gatherumlaw04_alive.app) (h24 : F 24 = gatherumref04_Empty.app) (h33 : F 33 = gatherumref04_Within.app) (h52 : F 52 = box_Hull.app K) (a0 : List (Int × Int × Int × Int)) : Sy.den F K gatherumlaw04_BoxHulls.t [] [.lst 4 (a0.map rw_iiii.en)] = (gatherumlaw04_BoxHulls.f K a0).map gatherumlaw04_BoxHulls.rr.en := by
  simp (maxSteps := 4000000) only [gatherumlaw04_BoxHulls.t, gatherumlaw04_BoxHulls.f, gatherumlaw04_BoxHulls.rr_en, h22, gatherumlaw04_alive.ap, gatherumlaw04_alive.rr_en, h24, gatherumref04_Empty.ap, gatherumref04_Empty.rr_en, h33, gatherumref04_Within.ap, gatherumref04_Within.rr_en, h52, box_Hull.ap, box_Hull.rr_en, gatherumlaw04_BoxHulls.l0_den F K h22 h24 h33 h52 [], Sy.den, iterF, pds, PC.pd, E.ev, B.ev, SE.ev, LE.rows, lensEv, K4.oks, K4.ok, kSl_eq, kPt_eq, ov_prop, List.getElem?_cons_zero, List.getElem?_cons_succ, List.getElem?_map, List.cons_append, List.nil_append, List.append_nil, List.take_succ_cons, List.take_zero, List.length_map, Nat.add_zero, Nat.zero_add, Option.bind_some, Option.map_some, Option.map_none, Option.bind_none, bmap, mapb, ite_map, ite_true, Bool.true_and, Bool.and_true, Bool.and_self, decide_true, eq_self, if_true, mxi, mni, Subtype.eta, rw_iiii_en, rw_iiii_one, rw_iiii_cons, ← List.map_append]
theorem gatherumlaw04_BoxHulls.ok (F : FnE) (K : Nat) (h22 : F 22 = gatherumlaw04_alive.app) (h24 : F 24 = gatherumref04_Empty.app) (h33 : F 33 = gatherumref04_Within.app) (h52 : F 52 = box_Hull.app K) (ps r : List PD) (h : gatherumlaw04_BoxHulls.app K ps = some r) : Sy.den F K gatherumlaw04_BoxHulls.t [] ps = some r := by
  obtain ⟨a, rfl, h2⟩ := app_ok (ra := gatherumlaw04_BoxHulls.ra) (rr := gatherumlaw04_BoxHulls.rr) (f := fun x => gatherumlaw04_BoxHulls.f K x) h
  rw [← h2]
  exact gatherumlaw04_BoxHulls.den F K h22 h24 h33 h52 a
theorem gatherumlaw04_BoxHulls.calls (K : Nat) (a0 : List (Int × Int × Int × Int)) (w : World) (S : Nat → Prop) (hS : ∀ b, S b → b < w.heap.size) (vals : List Value) (hv : RepArgs w S gatherumlaw04_BoxHulls.sg [.lst 4 (a0.map rw_iiii.en)] vals) (h : gatherumlaw04_BoxHulls.f K a0 = some true) :
    Calls Try.prog 12 vals.toArray w fun e w' => e = .returned (.bool true) ∧ Below w.heap.size w w' := by
  refine (fn_callsD (r := [.bool true]) gatherumlaw04_BoxHulls.is rfl (by decide +kernel) envOk relOk relNp mix (gd52 K) (Den_of_den _ [] [] _ (fun d j hj => by simp at hj) (by rw [gatherumlaw04_BoxHulls.den _ K rfl rfl rfl rfl, h]; rfl)) hS hv).mono fun e w' he => ?_
  cases e with
  | returned u => exact ⟨by rw [bool_ans he.1], he.2⟩
  | panicked c => exact he.elim
  | outgrown => exact he.elim
end Go.Proofs.Ytnahjeeochfljaa.XBoxHulls
