/- What the functions of the law BoxMakes compute: written by sygen.py from the executor's answers. -/
import Derived.Test.YtnahjeeochfljaaSyB
import Derived.Test.YtnahjeeochfljaaProg
import Derived.KernelRfl
set_option linter.unusedVariables false
set_option linter.unusedSimpArgs false
set_option maxRecDepth 100000
set_option maxHeartbeats 4000000
namespace Go.Proofs.Ytnahjeeochfljaa.XBoxMakes
open Go Go.RowKit Go.Proofs Go.Proofs.Ytnahjeeochfljaa.Sy
noncomputable def ty3 : TD := ⟨(TypeDesc.int IntKind.i64), (.int .i64 0), 1, 8⟩
noncomputable def ty4 : TD := ⟨TypeDesc.bool, (.bool false), 1, 1⟩
noncomputable def ty27 : TD := ⟨(TypeDesc.struct #[{ name := "X0", type := 3, offset := 0, embedded := false, tag := "", pkgPath := "", byteOffset := 0 }, { name := "Y0", type := 3, offset := 1, embedded := false, tag := "", pkgPath := "", byteOffset := 8 }, { name := "X1", type := 3, offset := 2, embedded := false, tag := "", pkgPath := "", byteOffset := 16 }, { name := "Y1", type := 3, offset := 3, embedded := false, tag := "", pkgPath := "", byteOffset := 24 }]), (.agg #[.int .i64 0, .int .i64 0, .int .i64 0, .int .i64 0]), 4, 32⟩
noncomputable def ty34 : TD := ⟨(TypeDesc.slice 27), (.slice none 0 0), 1, 24⟩
noncomputable def ty44 : TD := ⟨(TypeDesc.array 4 3), (.agg #[.int .i64 0, .int .i64 0, .int .i64 0, .int .i64 0]), 4, 32⟩
noncomputable def tys : List (Nat × TD) := [(3, ty3), (4, ty4), (27, ty27), (34, ty34), (44, ty44)]
noncomputable def flats : List Nat := [27, 44]
noncomputable def kds : List (Nat × List K4) := [(3, [.i]), (4, [.b]), (27, [.i, .i, .i, .i]), (34, [(.l 27 4)]), (44, [.i, .i, .i, .i])]
noncomputable def fns : List (Nat × List S1 × Sh) := [(31, [(.agg [.i, .i, .i, .i])], (.one (.one .b))), (23, [(.agg [.i, .i, .i, .i]), (.one .b), (.one .i)], (.one (.one (.l 27 4)))), (28, [(.agg [.i, .i, .i, .i]), (.agg [.i, .i, .i, .i])], (.one (.agg [.i, .i, .i, .i]))), (22, [], (.one (.one .b))), (35, [(.one .i), (.one .i), (.one .i), (.one .i)], (.one (.agg [.i, .i, .i, .i]))), (36, [(.agg [.i, .i, .i, .i])], (.tup [(.one .i), (.one .i)])), (37, [(.agg [.i, .i, .i, .i]), (.one .i), (.one .i), (.one .i), (.one .i)], (.one (.agg [.i, .i, .i, .i]))), (38, [(.agg [.i, .i, .i, .i]), (.one .i), (.one .i)], (.one (.agg [.i, .i, .i, .i]))), (39, [(.one .i), (.one .i), (.one .i), (.one .i)], (.one (.agg [.i, .i, .i, .i]))), (7, [(.agg [.i, .i, .i, .i]), (.agg [.i, .i, .i, .i])], (.one (.one .b)))]
noncomputable def env : Env := ⟨tys, eqsOf tys flats flats, kds, fns⟩
noncomputable def rel : List (Nat × RelE) := []
theorem tysOk : TysOk Try.prog tys := (tys_cons (tys_cons (tys_cons (tys_cons (tys_cons tys_nil (t := 44) (td := ty44) Try.underlying44 (by kernel_rfl)) (t := 34) (td := ty34) Try.underlying34 (by kernel_rfl)) (t := 27) (td := ty27) Try.underlying27 (by kernel_rfl)) (t := 4) (td := ty4) Try.underlying4 (by kernel_rfl)) (t := 3) (td := ty3) Try.underlying3 (by kernel_rfl))
theorem flatOk : FlatOk Try.prog flats := (flat_cons (flat_cons flat_nil (t := 44) (by kernel_rfl) (by kernel_rfl)) (t := 27) (by kernel_rfl) (by kernel_rfl))
theorem envOk : EnvOk Try.prog env := env_ok tysOk flatOk kds fns
theorem mix : Try.prog.follows .mixedOrders = true := by kernel_rfl
theorem relOk : GoodR Try.prog rel := goodR_nil
theorem relNp : RelNoPt rel := relNoPt_nil
def l0 (K : Nat) : List (Nat × App) := []
theorem gd0 (K : Nat) : Sy.Good Try.prog fns (mkF (l0 K)) := good_nil
def kSl : Ov := ⟨.slice none 0 0, rfl⟩
theorem kSl_eq : Value.slice none 0 0 = kSl.1 := rfl
def kPt : Ov := ⟨.pointer none, rfl⟩
theorem kPt_eq : Value.pointer none = kPt.1 := rfl
def rw_iiii : Rw (Int × Int × Int × Int) := (rwP rwI (rwP rwI (rwP rwI rwI)))
theorem rw_iiii_en (r : Int × Int × Int × Int) : rw_iiii.en r = [.int r.1, .int r.2.1, .int r.2.2.1, .int r.2.2.2] := rfl
theorem rw_iiii_one (r0 : Int) (r1 : Int) (r2 : Int) (r3 : Int) : ([[.int r0, .int r1, .int r2, .int r3]] : List (List PD)) = [(r0, r1, r2, r3)].map rw_iiii.en := rfl
theorem rw_iiii_cons (r0 : Int) (r1 : Int) (r2 : Int) (r3 : Int) (l : List (Int × Int × Int × Int)) : ([.int r0, .int r1, .int r2, .int r3] :: l.map rw_iiii.en : List (List PD)) = ((r0, r1, r2, r3) :: l).map rw_iiii.en := rfl
theorem rw_iiii_nil : (PD.lst 4 [] : PD) = PD.lst 4 (([] : List (Int × Int × Int × Int)).map rw_iiii.en) := rfl
/-! ### box_Empty: function 31 -/
noncomputable def box_Empty.body : Code := Try.f31.body.getD .skip
noncomputable def box_Empty.sg : List S1 := [(.agg [.i, .i, .i, .i])]
noncomputable def box_Empty.sh : Sh := (.one (.one .b))
noncomputable def box_Empty.cf : Cfg := ⟨env, Try.f31.ntmps, Try.f31.results.toList, some box_Empty.sh, rel, [], []⟩
noncomputable def box_Empty.t : Tree := (.ite (.le (.va 2) (.va 0)) (.ret [(.bo (.co true))]) (.ret [(.bo (.le (.va 3) (.va 1)))]))
def box_Empty.ra : Rw (Int × Int × Int × Int) := (rwP rwI (rwP rwI (rwP rwI rwI)))
def box_Empty.rr : Rw (Bool) := rwB
theorem box_Empty.rr_en (r : Bool) : box_Empty.rr.en r = [.bool r] := rfl
def box_Empty.f (a0_0 : Int) (a0_1 : Int) (a0_2 : Int) (a0_3 : Int) : Option (Bool) := (if (decide (a0_2 ≤ a0_0)) = true then some true else some (decide (a0_3 ≤ a0_1)))
def box_Empty.app : App := fun ps => (box_Empty.ra.de ps).bind fun x => (box_Empty.f x.1 x.2.1 x.2.2.1 x.2.2.2).map box_Empty.rr.en
theorem box_Empty.ap (a0_0 : Int) (a0_1 : Int) (a0_2 : Int) (a0_3 : Int) : box_Empty.app [.int a0_0, .int a0_1, .int a0_2, .int a0_3] = (box_Empty.f a0_0 a0_1 a0_2 a0_3).map box_Empty.rr.en := app_ap box_Empty.ra box_Empty.rr (fun x => box_Empty.f x.1 x.2.1 x.2.2.1 x.2.2.2) (a0_0, a0_1, a0_2, a0_3)
theorem box_Empty.is : FnIs Try.prog 31 (.init box_Empty.sg) box_Empty.t box_Empty.cf := ⟨Try.f31, box_Empty.body, 6000, Try.func31, by kernel_rfl, rfl, rfl, by decide +kernel, by kernel_rfl⟩
theorem box_Empty.den (F : FnE) (K : Nat) (a0_0 : Int) (a0_1 : Int) (a0_2 : Int) (a0_3 : Int) : Sy.den F K box_Empty.t [] [.int a0_0, .int a0_1, .int a0_2, .int a0_3] = (box_Empty.f a0_0 a0_1 a0_2 a0_3).map box_Empty.rr.en := by
  simp (maxSteps := 4000000) only [box_Empty.t, box_Empty.f, box_Empty.rr_en, Sy.den, iterF, pds, PC.pd, E.ev, B.ev, SE.ev, LE.rows, lensEv, K4.oks, K4.ok, kSl_eq, kPt_eq, ov_prop, List.getElem?_cons_zero, List.getElem?_cons_succ, List.getElem?_map, List.cons_append, List.nil_append, List.append_nil, List.take_succ_cons, List.take_zero, List.length_map, Nat.add_zero, Nat.zero_add, Option.bind_some, Option.map_some, Option.map_none, Option.bind_none, bmap, mapb, ite_map, ite_true, Bool.true_and, Bool.and_true, Bool.and_self, decide_true, eq_self, if_true, mxi, mni, Subtype.eta]
theorem box_Empty.ok (F : FnE) (K : Nat) (ps r : List PD) (h : box_Empty.app ps = some r) : Sy.den F K box_Empty.t [] ps = some r := by
  obtain ⟨a, rfl, h2⟩ := app_ok (ra := box_Empty.ra) (rr := box_Empty.rr) (f := fun x => box_Empty.f x.1 x.2.1 x.2.2.1 x.2.2.2) h
  rw [← h2]
  exact box_Empty.den F K (a.1) (a.2.1) (a.2.2.1) (a.2.2.2)
def l31 (K : Nat) : List (Nat × App) := (31, box_Empty.app) :: l0 K
theorem gd31 (K : Nat) : Sy.Good Try.prog fns (mkF (l31 K)) := good_cons (K := K) box_Empty.is rfl (by kernel_rfl) (by decide +kernel) envOk relOk relNp mix (gd0 K) (box_Empty.ok _ K)
/-! ### box_Split: function 23 -/
noncomputable def box_Split.body : Code := Try.f23.body.getD .skip
noncomputable def box_Split.sg : List S1 := [(.agg [.i, .i, .i, .i]), (.one .b), (.one .i)]
noncomputable def box_Split.sh : Sh := (.one (.one (.l 27 4)))
noncomputable def box_Split.cf : Cfg := ⟨env, Try.f23.ntmps, Try.f23.results.toList, some box_Split.sh, rel, [], []⟩
noncomputable def box_Split.t : Tree := (.ask 31 [(.ex (.va 0)), (.ex (.va 1)), (.ex (.va 2)), (.ex (.va 3))] [.b] (.ite (.va 6) (.ret [(.nl 4)]) (.ite (.va 4) (.ite (.lt (.va 0) (.va 5)) (.ite (.lt (.va 5) (.va 2)) (.fix [(.row [(.ex (.va 0)), (.ex (.va 1)), (.ex (.va 5)), (.ex (.va 3))]), (.row [(.ex (.va 5)), (.ex (.va 1)), (.ex (.va 2)), (.ex (.va 3))])] 4 (.ret [(.li 7)])) (.fix [(.row [(.ex (.va 0)), (.ex (.va 1)), (.ex (.va 2)), (.ex (.va 3))])] 4 (.ret [(.li 7)]))) (.fix [(.row [(.ex (.va 0)), (.ex (.va 1)), (.ex (.va 2)), (.ex (.va 3))])] 4 (.ret [(.li 7)]))) (.ite (.lt (.va 1) (.va 5)) (.ite (.lt (.va 5) (.va 3)) (.fix [(.row [(.ex (.va 0)), (.ex (.va 1)), (.ex (.va 2)), (.ex (.va 5))]), (.row [(.ex (.va 0)), (.ex (.va 5)), (.ex (.va 2)), (.ex (.va 3))])] 4 (.ret [(.li 7)])) (.fix [(.row [(.ex (.va 0)), (.ex (.va 1)), (.ex (.va 2)), (.ex (.va 3))])] 4 (.ret [(.li 7)]))) (.fix [(.row [(.ex (.va 0)), (.ex (.va 1)), (.ex (.va 2)), (.ex (.va 3))])] 4 (.ret [(.li 7)]))))))
def box_Split.ra : Rw (Int × Int × Int × Int × Bool × Int) := (rwP rwI (rwP rwI (rwP rwI (rwP rwI (rwP rwB rwI)))))
def box_Split.rr : Rw (List (Int × Int × Int × Int)) := (rwL 27 4 rw_iiii rfl)
theorem box_Split.rr_en (r : List (Int × Int × Int × Int)) : box_Split.rr.en r = [.lst 4 (r.map rw_iiii.en)] := rfl
def box_Split.f (a0_0 : Int) (a0_1 : Int) (a0_2 : Int) (a0_3 : Int) (a1 : Bool) (a2 : Int) : Option (List (Int × Int × Int × Int)) := ((box_Empty.f a0_0 a0_1 a0_2 a0_3).bind fun b0 => (if b0 = true then some [] else (if a1 = true then (if (decide (a0_0 < a2)) = true then (if (decide (a2 < a0_2)) = true then some ((a0_0, a0_1, a2, a0_3) :: [(a2, a0_1, a0_2, a0_3)]) else some [(a0_0, a0_1, a0_2, a0_3)]) else some [(a0_0, a0_1, a0_2, a0_3)]) else (if (decide (a0_1 < a2)) = true then (if (decide (a2 < a0_3)) = true then some ((a0_0, a0_1, a0_2, a2) :: [(a0_0, a2, a0_2, a0_3)]) else some [(a0_0, a0_1, a0_2, a0_3)]) else some [(a0_0, a0_1, a0_2, a0_3)]))))
def box_Split.app : App := fun ps => (box_Split.ra.de ps).bind fun x => (box_Split.f x.1 x.2.1 x.2.2.1 x.2.2.2.1 x.2.2.2.2.1 x.2.2.2.2.2).map box_Split.rr.en
theorem box_Split.ap (a0_0 : Int) (a0_1 : Int) (a0_2 : Int) (a0_3 : Int) (a1 : Bool) (a2 : Int) : box_Split.app [.int a0_0, .int a0_1, .int a0_2, .int a0_3, .bool a1, .int a2] = (box_Split.f a0_0 a0_1 a0_2 a0_3 a1 a2).map box_Split.rr.en := app_ap box_Split.ra box_Split.rr (fun x => box_Split.f x.1 x.2.1 x.2.2.1 x.2.2.2.1 x.2.2.2.2.1 x.2.2.2.2.2) (a0_0, a0_1, a0_2, a0_3, a1, a2)
theorem box_Split.is : FnIs Try.prog 23 (.init box_Split.sg) box_Split.t box_Split.cf := ⟨Try.f23, box_Split.body, 6000, Try.func23, by kernel_rfl, rfl, rfl, by decide +kernel, by kernel_rfl⟩
theorem box_Split.den (F : FnE) (K : Nat) (h31 : F 31 = box_Empty.app) (a0_0 : Int) (a0_1 : Int) (a0_2 : Int) (a0_3 : Int) (a1 : Bool) (a2 : Int) : Sy.den F K box_Split.t [] [.int a0_0, .int a0_1, .int a0_2, .int a0_3, .bool a1, .int a2] = (box_Split.f a0_0 a0_1 a0_2 a0_3 a1 a2).map box_Split.rr.en := by
  simp (maxSteps := 4000000) only [box_Split.t, box_Split.f, box_Split.rr_en, h31, box_Empty.ap, box_Empty.rr_en, Sy.den, iterF, pds, PC.pd, E.ev, B.ev, SE.ev, LE.rows, lensEv, K4.oks, K4.ok, kSl_eq, kPt_eq, ov_prop, List.getElem?_cons_zero, List.getElem?_cons_succ, List.getElem?_map, List.cons_append, List.nil_append, List.append_nil, List.take_succ_cons, List.take_zero, List.length_map, Nat.add_zero, Nat.zero_add, Option.bind_some, Option.map_some, Option.map_none, Option.bind_none, bmap, mapb, ite_map, ite_true, Bool.true_and, Bool.and_true, Bool.and_self, decide_true, eq_self, if_true, mxi, mni, Subtype.eta, rw_iiii_en, rw_iiii_one, rw_iiii_cons, ← List.map_append, rw_iiii_nil]
theorem box_Split.ok (F : FnE) (K : Nat) (h31 : F 31 = box_Empty.app) (ps r : List PD) (h : box_Split.app ps = some r) : Sy.den F K box_Split.t [] ps = some r := by
  obtain ⟨a, rfl, h2⟩ := app_ok (ra := box_Split.ra) (rr := box_Split.rr) (f := fun x => box_Split.f x.1 x.2.1 x.2.2.1 x.2.2.2.1 x.2.2.2.2.1 x.2.2.2.2.2) h
  rw [← h2]
  exact box_Split.den F K h31 (a.1) (a.2.1) (a.2.2.1) (a.2.2.2.1) (a.2.2.2.2.1) (a.2.2.2.2.2)
def l23 (K : Nat) : List (Nat × App) := (23, box_Split.app) :: l31 K
theorem gd23 (K : Nat) : Sy.Good Try.prog fns (mkF (l23 K)) := good_cons (K := K) box_Split.is rfl (by kernel_rfl) (by decide +kernel) envOk relOk relNp mix (gd31 K) (box_Split.ok _ K rfl)
/-! ### box_Meet: function 28 -/
noncomputable def box_Meet.body : Code := Try.f28.body.getD .skip
noncomputable def box_Meet.sg : List S1 := [(.agg [.i, .i, .i, .i]), (.agg [.i, .i, .i, .i])]
noncomputable def box_Meet.sh : Sh := (.one (.agg [.i, .i, .i, .i]))
noncomputable def box_Meet.cf : Cfg := ⟨env, Try.f28.ntmps, Try.f28.results.toList, some box_Meet.sh, rel, [], []⟩
noncomputable def box_Meet.t : Tree := (.ask 31 [(.ex (.mx (.va 0) (.va 4))), (.ex (.mx (.va 1) (.va 5))), (.ex (.mn (.va 2) (.va 6))), (.ex (.mn (.va 3) (.va 7)))] [.b] (.ite (.va 8) (.ret [(.ex (.nu 0)), (.ex (.nu 0)), (.ex (.nu 0)), (.ex (.nu 0))]) (.ret [(.ex (.mx (.va 0) (.va 4))), (.ex (.mx (.va 1) (.va 5))), (.ex (.mn (.va 2) (.va 6))), (.ex (.mn (.va 3) (.va 7)))])))
def box_Meet.ra : Rw (Int × Int × Int × Int × Int × Int × Int × Int) := (rwP rwI (rwP rwI (rwP rwI (rwP rwI (rwP rwI (rwP rwI (rwP rwI rwI)))))))
def box_Meet.rr : Rw (Int × Int × Int × Int) := (rwP rwI (rwP rwI (rwP rwI rwI)))
theorem box_Meet.rr_en (r : Int × Int × Int × Int) : box_Meet.rr.en r = [.int r.1, .int r.2.1, .int r.2.2.1, .int r.2.2.2] := rfl
def box_Meet.f (a0_0 : Int) (a0_1 : Int) (a0_2 : Int) (a0_3 : Int) (a1_0 : Int) (a1_1 : Int) (a1_2 : Int) (a1_3 : Int) : Option (Int × Int × Int × Int) := ((box_Empty.f (mxi a0_0 a1_0) (mxi a0_1 a1_1) (mni a0_2 a1_2) (mni a0_3 a1_3)).bind fun b0 => (if b0 = true then some (0, 0, 0, 0) else some ((mxi a0_0 a1_0), (mxi a0_1 a1_1), (mni a0_2 a1_2), (mni a0_3 a1_3))))
def box_Meet.app : App := fun ps => (box_Meet.ra.de ps).bind fun x => (box_Meet.f x.1 x.2.1 x.2.2.1 x.2.2.2.1 x.2.2.2.2.1 x.2.2.2.2.2.1 x.2.2.2.2.2.2.1 x.2.2.2.2.2.2.2).map box_Meet.rr.en
theorem box_Meet.ap (a0_0 : Int) (a0_1 : Int) (a0_2 : Int) (a0_3 : Int) (a1_0 : Int) (a1_1 : Int) (a1_2 : Int) (a1_3 : Int) : box_Meet.app [.int a0_0, .int a0_1, .int a0_2, .int a0_3, .int a1_0, .int a1_1, .int a1_2, .int a1_3] = (box_Meet.f a0_0 a0_1 a0_2 a0_3 a1_0 a1_1 a1_2 a1_3).map box_Meet.rr.en := app_ap box_Meet.ra box_Meet.rr (fun x => box_Meet.f x.1 x.2.1 x.2.2.1 x.2.2.2.1 x.2.2.2.2.1 x.2.2.2.2.2.1 x.2.2.2.2.2.2.1 x.2.2.2.2.2.2.2) (a0_0, a0_1, a0_2, a0_3, a1_0, a1_1, a1_2, a1_3)
theorem box_Meet.is : FnIs Try.prog 28 (.init box_Meet.sg) box_Meet.t box_Meet.cf := ⟨Try.f28, box_Meet.body, 6000, Try.func28, by kernel_rfl, rfl, rfl, by decide +kernel, by kernel_rfl⟩
theorem box_Meet.den (F : FnE) (K : Nat) (h31 : F 31 = box_Empty.app) (a0_0 : Int) (a0_1 : Int) (a0_2 : Int) (a0_3 : Int) (a1_0 : Int) (a1_1 : Int) (a1_2 : Int) (a1_3 : Int) : Sy.den F K box_Meet.t [] [.int a0_0, .int a0_1, .int a0_2, .int a0_3, .int a1_0, .int a1_1, .int a1_2, .int a1_3] = (box_Meet.f a0_0 a0_1 a0_2 a0_3 a1_0 a1_1 a1_2 a1_3).map box_Meet.rr.en := by
  simp (maxSteps := 4000000) only [box_Meet.t, box_Meet.f, box_Meet.rr_en, h31, box_Empty.ap, box_Empty.rr_en, Sy.den, iterF, pds, PC.pd, E.ev, B.ev, SE.ev, LE.rows, lensEv, K4.oks, K4.ok, kSl_eq, kPt_eq, ov_prop, List.getElem?_cons_zero, List.getElem?_cons_succ, List.getElem?_map, List.cons_append, List.nil_append, List.append_nil, List.take_succ_cons, List.take_zero, List.length_map, Nat.add_zero, Nat.zero_add, Option.bind_some, Option.map_some, Option.map_none, Option.bind_none, bmap, mapb, ite_map, ite_true, Bool.true_and, Bool.and_true, Bool.and_self, decide_true, eq_self, if_true, mxi, mni, Subtype.eta, rw_iiii_en, rw_iiii_one, rw_iiii_cons, ← List.map_append]
theorem box_Meet.ok (F : FnE) (K : Nat) (h31 : F 31 = box_Empty.app) (ps r : List PD) (h : box_Meet.app ps = some r) : Sy.den F K box_Meet.t [] ps = some r := by
  obtain ⟨a, rfl, h2⟩ := app_ok (ra := box_Meet.ra) (rr := box_Meet.rr) (f := fun x => box_Meet.f x.1 x.2.1 x.2.2.1 x.2.2.2.1 x.2.2.2.2.1 x.2.2.2.2.2.1 x.2.2.2.2.2.2.1 x.2.2.2.2.2.2.2) h
  rw [← h2]
  exact box_Meet.den F K h31 (a.1) (a.2.1) (a.2.2.1) (a.2.2.2.1) (a.2.2.2.2.1) (a.2.2.2.2.2.1) (a.2.2.2.2.2.2.1) (a.2.2.2.2.2.2.2)
def l28 (K : Nat) : List (Nat × App) := (28, box_Meet.app) :: l23 K
theorem gd28 (K : Nat) : Sy.Good Try.prog fns (mkF (l28 K)) := good_cons (K := K) box_Meet.is rfl (by kernel_rfl) (by decide +kernel) envOk relOk relNp mix (gd23 K) (box_Meet.ok _ K rfl)
/-! ### gatherumlaw04_alive: function 22 -/
noncomputable def gatherumlaw04_alive.body : Code := Try.f22.body.getD .skip
noncomputable def gatherumlaw04_alive.sg : List S1 := []
noncomputable def gatherumlaw04_alive.sh : Sh := (.one (.one .b))
noncomputable def gatherumlaw04_alive.cf : Cfg := ⟨env, Try.f22.ntmps, Try.f22.results.toList, some gatherumlaw04_alive.sh, rel, [], []⟩
noncomputable def gatherumlaw04_alive.t : Tree := (.ask 28 [(.ex (.nu 0)), (.ex (.nu 0)), (.ex (.nu 4)), (.ex (.nu 4)), (.ex (.nu 2)), (.ex (.nu 3)), (.ex (.nu 9)), (.ex (.nu 9))] [.i, .i, .i, .i] (.ite (.and (.eq (.va 0) (.nu 2)) (.and (.eq (.va 1) (.nu 3)) (.and (.eq (.va 2) (.nu 4)) (.eq (.va 3) (.nu 4))))) (.ask 31 [(.ex (.va 0)), (.ex (.va 1)), (.ex (.va 2)), (.ex (.va 3))] [.b] (.ite (.not (.va 4)) (.ask 23 [(.ex (.va 0)), (.ex (.va 1)), (.ex (.va 2)), (.ex (.va 3)), (.bo (.co true)), (.ex (.nu 3))] [(.l 27 4)] (.ret [(.bo (.eq (.lens [5] 0) (.nu 2)))])) (.ret [(.bo (.co false))]))) (.ret [(.bo (.co false))])))
def gatherumlaw04_alive.ra : Rw (Unit) := rwU
def gatherumlaw04_alive.rr : Rw (Bool) := rwB
theorem gatherumlaw04_alive.rr_en (r : Bool) : gatherumlaw04_alive.rr.en r = [.bool r] := rfl
def gatherumlaw04_alive.f : Option (Bool) := ((box_Meet.f 0 0 4 4 2 3 9 9).bind fun b0 => (if ((b0.1 == 2) && ((b0.2.1 == 3) && ((b0.2.2.1 == 4) && (b0.2.2.2 == 4)))) = true then ((box_Empty.f b0.1 b0.2.1 b0.2.2.1 b0.2.2.2).bind fun b1 => (if (!b1) = true then ((box_Split.f b0.1 b0.2.1 b0.2.2.1 b0.2.2.2 true 3).bind fun b2 => some (((b2.length : Nat) : Int) == 2)) else some false)) else some false))
def gatherumlaw04_alive.app : App := fun ps => (gatherumlaw04_alive.ra.de ps).bind fun x => (gatherumlaw04_alive.f).map gatherumlaw04_alive.rr.en
theorem gatherumlaw04_alive.ap : gatherumlaw04_alive.app [] = (gatherumlaw04_alive.f).map gatherumlaw04_alive.rr.en := app_ap gatherumlaw04_alive.ra gatherumlaw04_alive.rr (fun x => gatherumlaw04_alive.f) ()
theorem gatherumlaw04_alive.is : FnIs Try.prog 22 (.init gatherumlaw04_alive.sg) gatherumlaw04_alive.t gatherumlaw04_alive.cf := ⟨Try.f22, gatherumlaw04_alive.body, 6000, Try.func22, by kernel_rfl, rfl, rfl, by decide +kernel, by kernel_rfl⟩
theorem gatherumlaw04_alive.den (F : FnE) (K : Nat) (h23 : F 23 = box_Split.app) (h28 : F 28 = box_Meet.app) (h31 : F 31 = box_Empty.app) : Sy.den F K gatherumlaw04_alive.t [] [] = (gatherumlaw04_alive.f).map gatherumlaw04_alive.rr.en := by
  simp (maxSteps := 4000000) only [gatherumlaw04_alive.t, gatherumlaw04_alive.f, gatherumlaw04_alive.rr_en, h23, box_Split.ap, box_Split.rr_en, h28, box_Meet.ap, box_Meet.rr_en, h31, box_Empty.ap, box_Empty.rr_en, Sy.den, iterF, pds, PC.pd, E.ev, B.ev, SE.ev, LE.rows, lensEv, K4.oks, K4.ok, kSl_eq, kPt_eq, ov_prop, List.getElem?_cons_zero, List.getElem?_cons_succ, List.getElem?_map, List.cons_append, List.nil_append, List.append_nil, List.take_succ_cons, List.take_zero, List.length_map, Nat.add_zero, Nat.zero_add, Option.bind_some, Option.map_some, Option.map_none, Option.bind_none, bmap, mapb, ite_map, ite_true, Bool.true_and, Bool.and_true, Bool.and_self, decide_true, eq_self, if_true, mxi, mni, Subtype.eta, rw_iiii_en, rw_iiii_one, rw_iiii_cons, ← List.map_append]
theorem gatherumlaw04_alive.ok (F : FnE) (K : Nat) (h23 : F 23 = box_Split.app) (h28 : F 28 = box_Meet.app) (h31 : F 31 = box_Empty.app) (ps r : List PD) (h : gatherumlaw04_alive.app ps = some r) : Sy.den F K gatherumlaw04_alive.t [] ps = some r := by
  obtain ⟨a, rfl, h2⟩ := app_ok (ra := gatherumlaw04_alive.ra) (rr := gatherumlaw04_alive.rr) (f := fun x => gatherumlaw04_alive.f) h
  rw [← h2]
  exact gatherumlaw04_alive.den F K h23 h28 h31
def l22 (K : Nat) : List (Nat × App) := (22, gatherumlaw04_alive.app) :: l28 K
theorem gd22 (K : Nat) : Sy.Good Try.prog fns (mkF (l22 K)) := good_cons (K := K) gatherumlaw04_alive.is rfl (by kernel_rfl) (by decide +kernel) envOk relOk relNp mix (gd28 K) (gatherumlaw04_alive.ok _ K rfl rfl rfl)
/-! ### box_Of: function 35 -/
noncomputable def box_Of.body : Code := Try.f35.body.getD .skip
noncomputable def box_Of.sg : List S1 := [(.one .i), (.one .i), (.one .i), (.one .i)]
noncomputable def box_Of.sh : Sh := (.one (.agg [.i, .i, .i, .i]))
noncomputable def box_Of.cf : Cfg := ⟨env, Try.f35.ntmps, Try.f35.results.toList, some box_Of.sh, rel, [], []⟩
noncomputable def box_Of.t : Tree := (.ret [(.ex (.va 0)), (.ex (.va 1)), (.ex (.add (.va 0) (.va 2))), (.ex (.add (.va 1) (.va 3)))])
def box_Of.ra : Rw (Int × Int × Int × Int) := (rwP rwI (rwP rwI (rwP rwI rwI)))
def box_Of.rr : Rw (Int × Int × Int × Int) := (rwP rwI (rwP rwI (rwP rwI rwI)))
theorem box_Of.rr_en (r : Int × Int × Int × Int) : box_Of.rr.en r = [.int r.1, .int r.2.1, .int r.2.2.1, .int r.2.2.2] := rfl
def box_Of.f (a0 : Int) (a1 : Int) (a2 : Int) (a3 : Int) : Option (Int × Int × Int × Int) := some (a0, a1, (wrap64 (a0 + a2)), (wrap64 (a1 + a3)))
def box_Of.app : App := fun ps => (box_Of.ra.de ps).bind fun x => (box_Of.f x.1 x.2.1 x.2.2.1 x.2.2.2).map box_Of.rr.en
theorem box_Of.ap (a0 : Int) (a1 : Int) (a2 : Int) (a3 : Int) : box_Of.app [.int a0, .int a1, .int a2, .int a3] = (box_Of.f a0 a1 a2 a3).map box_Of.rr.en := app_ap box_Of.ra box_Of.rr (fun x => box_Of.f x.1 x.2.1 x.2.2.1 x.2.2.2) (a0, a1, a2, a3)
theorem box_Of.is : FnIs Try.prog 35 (.init box_Of.sg) box_Of.t box_Of.cf := ⟨Try.f35, box_Of.body, 6000, Try.func35, by kernel_rfl, rfl, rfl, by decide +kernel, by kernel_rfl⟩
theorem box_Of.den (F : FnE) (K : Nat) (a0 : Int) (a1 : Int) (a2 : Int) (a3 : Int) : Sy.den F K box_Of.t [] [.int a0, .int a1, .int a2, .int a3] = (box_Of.f a0 a1 a2 a3).map box_Of.rr.en := by
  simp (maxSteps := 4000000) only [box_Of.t, box_Of.f, box_Of.rr_en, Sy.den, iterF, pds, PC.pd, E.ev, B.ev, SE.ev, LE.rows, lensEv, K4.oks, K4.ok, kSl_eq, kPt_eq, ov_prop, List.getElem?_cons_zero, List.getElem?_cons_succ, List.getElem?_map, List.cons_append, List.nil_append, List.append_nil, List.take_succ_cons, List.take_zero, List.length_map, Nat.add_zero, Nat.zero_add, Option.bind_some, Option.map_some, Option.map_none, Option.bind_none, bmap, mapb, ite_map, ite_true, Bool.true_and, Bool.and_true, Bool.and_self, decide_true, eq_self, if_true, mxi, mni, Subtype.eta, rw_iiii_en, rw_iiii_one, rw_iiii_cons, ← List.map_append]
theorem box_Of.ok (F : FnE) (K : Nat) (ps r : List PD) (h : box_Of.app ps = some r) : Sy.den F K box_Of.t [] ps = some r := by
  obtain ⟨a, rfl, h2⟩ := app_ok (ra := box_Of.ra) (rr := box_Of.rr) (f := fun x => box_Of.f x.1 x.2.1 x.2.2.1 x.2.2.2) h
  rw [← h2]
  exact box_Of.den F K (a.1) (a.2.1) (a.2.2.1) (a.2.2.2)
def l35 (K : Nat) : List (Nat × App) := (35, box_Of.app) :: l22 K
theorem gd35 (K : Nat) : Sy.Good Try.prog fns (mkF (l35 K)) := good_cons (K := K) box_Of.is rfl (by kernel_rfl) (by decide +kernel) envOk relOk relNp mix (gd22 K) (box_Of.ok _ K)
/-! ### box_Size: function 36 -/
noncomputable def box_Size.body : Code := Try.f36.body.getD .skip
noncomputable def box_Size.sg : List S1 := [(.agg [.i, .i, .i, .i])]
noncomputable def box_Size.sh : Sh := (.tup [(.one .i), (.one .i)])
noncomputable def box_Size.cf : Cfg := ⟨env, Try.f36.ntmps, Try.f36.results.toList, some box_Size.sh, rel, [], []⟩
noncomputable def box_Size.t : Tree := (.ret [(.ex (.sub (.va 2) (.va 0))), (.ex (.sub (.va 3) (.va 1)))])
def box_Size.ra : Rw (Int × Int × Int × Int) := (rwP rwI (rwP rwI (rwP rwI rwI)))
def box_Size.rr : Rw (Int × Int) := (rwP rwI rwI)
theorem box_Size.rr_en (r : Int × Int) : box_Size.rr.en r = [.int r.1, .int r.2] := rfl
def box_Size.f (a0_0 : Int) (a0_1 : Int) (a0_2 : Int) (a0_3 : Int) : Option (Int × Int) := some ((wrap64 (a0_2 - a0_0)), (wrap64 (a0_3 - a0_1)))
def box_Size.app : App := fun ps => (box_Size.ra.de ps).bind fun x => (box_Size.f x.1 x.2.1 x.2.2.1 x.2.2.2).map box_Size.rr.en
theorem box_Size.ap (a0_0 : Int) (a0_1 : Int) (a0_2 : Int) (a0_3 : Int) : box_Size.app [.int a0_0, .int a0_1, .int a0_2, .int a0_3] = (box_Size.f a0_0 a0_1 a0_2 a0_3).map box_Size.rr.en := app_ap box_Size.ra box_Size.rr (fun x => box_Size.f x.1 x.2.1 x.2.2.1 x.2.2.2) (a0_0, a0_1, a0_2, a0_3)
theorem box_Size.is : FnIs Try.prog 36 (.init box_Size.sg) box_Size.t box_Size.cf := ⟨Try.f36, box_Size.body, 6000, Try.func36, by kernel_rfl, rfl, rfl, by decide +kernel, by kernel_rfl⟩
theorem box_Size.den (F : FnE) (K : Nat) (a0_0 : Int) (a0_1 : Int) (a0_2 : Int) (a0_3 : Int) : Sy.den F K box_Size.t [] [.int a0_0, .int a0_1, .int a0_2, .int a0_3] = (box_Size.f a0_0 a0_1 a0_2 a0_3).map box_Size.rr.en := by
  simp (maxSteps := 4000000) only [box_Size.t, box_Size.f, box_Size.rr_en, Sy.den, iterF, pds, PC.pd, E.ev, B.ev, SE.ev, LE.rows, lensEv, K4.oks, K4.ok, kSl_eq, kPt_eq, ov_prop, List.getElem?_cons_zero, List.getElem?_cons_succ, List.getElem?_map, List.cons_append, List.nil_append, List.append_nil, List.take_succ_cons, List.take_zero, List.length_map, Nat.add_zero, Nat.zero_add, Option.bind_some, Option.map_some, Option.map_none, Option.bind_none, bmap, mapb, ite_map, ite_true, Bool.true_and, Bool.and_true, Bool.and_self, decide_true, eq_self, if_true, mxi, mni, Subtype.eta, rw_iiii_en, rw_iiii_one, rw_iiii_cons, ← List.map_append]
theorem box_Size.ok (F : FnE) (K : Nat) (ps r : List PD) (h : box_Size.app ps = some r) : Sy.den F K box_Size.t [] ps = some r := by
  obtain ⟨a, rfl, h2⟩ := app_ok (ra := box_Size.ra) (rr := box_Size.rr) (f := fun x => box_Size.f x.1 x.2.1 x.2.2.1 x.2.2.2) h
  rw [← h2]
  exact box_Size.den F K (a.1) (a.2.1) (a.2.2.1) (a.2.2.2)
def l36 (K : Nat) : List (Nat × App) := (36, box_Size.app) :: l35 K
theorem gd36 (K : Nat) : Sy.Good Try.prog fns (mkF (l36 K)) := good_cons (K := K) box_Size.is rfl (by kernel_rfl) (by decide +kernel) envOk relOk relNp mix (gd35 K) (box_Size.ok _ K)
/-! ### box_Grow: function 37 -/
noncomputable def box_Grow.body : Code := Try.f37.body.getD .skip
noncomputable def box_Grow.sg : List S1 := [(.agg [.i, .i, .i, .i]), (.one .i), (.one .i), (.one .i), (.one .i)]
noncomputable def box_Grow.sh : Sh := (.one (.agg [.i, .i, .i, .i]))
noncomputable def box_Grow.cf : Cfg := ⟨env, Try.f37.ntmps, Try.f37.results.toList, some box_Grow.sh, rel, [], []⟩
noncomputable def box_Grow.t : Tree := (.ret [(.ex (.sub (.va 0) (.va 4))), (.ex (.sub (.va 1) (.va 5))), (.ex (.add (.va 2) (.va 6))), (.ex (.add (.va 3) (.va 7)))])
def box_Grow.ra : Rw (Int × Int × Int × Int × Int × Int × Int × Int) := (rwP rwI (rwP rwI (rwP rwI (rwP rwI (rwP rwI (rwP rwI (rwP rwI rwI)))))))
def box_Grow.rr : Rw (Int × Int × Int × Int) := (rwP rwI (rwP rwI (rwP rwI rwI)))
theorem box_Grow.rr_en (r : Int × Int × Int × Int) : box_Grow.rr.en r = [.int r.1, .int r.2.1, .int r.2.2.1, .int r.2.2.2] := rfl
def box_Grow.f (a0_0 : Int) (a0_1 : Int) (a0_2 : Int) (a0_3 : Int) (a1 : Int) (a2 : Int) (a3 : Int) (a4 : Int) : Option (Int × Int × Int × Int) := some ((wrap64 (a0_0 - a1)), (wrap64 (a0_1 - a2)), (wrap64 (a0_2 + a3)), (wrap64 (a0_3 + a4)))
def box_Grow.app : App := fun ps => (box_Grow.ra.de ps).bind fun x => (box_Grow.f x.1 x.2.1 x.2.2.1 x.2.2.2.1 x.2.2.2.2.1 x.2.2.2.2.2.1 x.2.2.2.2.2.2.1 x.2.2.2.2.2.2.2).map box_Grow.rr.en
theorem box_Grow.ap (a0_0 : Int) (a0_1 : Int) (a0_2 : Int) (a0_3 : Int) (a1 : Int) (a2 : Int) (a3 : Int) (a4 : Int) : box_Grow.app [.int a0_0, .int a0_1, .int a0_2, .int a0_3, .int a1, .int a2, .int a3, .int a4] = (box_Grow.f a0_0 a0_1 a0_2 a0_3 a1 a2 a3 a4).map box_Grow.rr.en := app_ap box_Grow.ra box_Grow.rr (fun x => box_Grow.f x.1 x.2.1 x.2.2.1 x.2.2.2.1 x.2.2.2.2.1 x.2.2.2.2.2.1 x.2.2.2.2.2.2.1 x.2.2.2.2.2.2.2) (a0_0, a0_1, a0_2, a0_3, a1, a2, a3, a4)
theorem box_Grow.is : FnIs Try.prog 37 (.init box_Grow.sg) box_Grow.t box_Grow.cf := ⟨Try.f37, box_Grow.body, 6000, Try.func37, by kernel_rfl, rfl, rfl, by decide +kernel, by kernel_rfl⟩
theorem box_Grow.den (F : FnE) (K : Nat) (a0_0 : Int) (a0_1 : Int) (a0_2 : Int) (a0_3 : Int) (a1 : Int) (a2 : Int) (a3 : Int) (a4 : Int) : Sy.den F K box_Grow.t [] [.int a0_0, .int a0_1, .int a0_2, .int a0_3, .int a1, .int a2, .int a3, .int a4] = (box_Grow.f a0_0 a0_1 a0_2 a0_3 a1 a2 a3 a4).map box_Grow.rr.en := by
  simp (maxSteps := 4000000) only [box_Grow.t, box_Grow.f, box_Grow.rr_en, Sy.den, iterF, pds, PC.pd, E.ev, B.ev, SE.ev, LE.rows, lensEv, K4.oks, K4.ok, kSl_eq, kPt_eq, ov_prop, List.getElem?_cons_zero, List.getElem?_cons_succ, List.getElem?_map, List.cons_append, List.nil_append, List.append_nil, List.take_succ_cons, List.take_zero, List.length_map, Nat.add_zero, Nat.zero_add, Option.bind_some, Option.map_some, Option.map_none, Option.bind_none, bmap, mapb, ite_map, ite_true, Bool.true_and, Bool.and_true, Bool.and_self, decide_true, eq_self, if_true, mxi, mni, Subtype.eta, rw_iiii_en, rw_iiii_one, rw_iiii_cons, ← List.map_append]
theorem box_Grow.ok (F : FnE) (K : Nat) (ps r : List PD) (h : box_Grow.app ps = some r) : Sy.den F K box_Grow.t [] ps = some r := by
  obtain ⟨a, rfl, h2⟩ := app_ok (ra := box_Grow.ra) (rr := box_Grow.rr) (f := fun x => box_Grow.f x.1 x.2.1 x.2.2.1 x.2.2.2.1 x.2.2.2.2.1 x.2.2.2.2.2.1 x.2.2.2.2.2.2.1 x.2.2.2.2.2.2.2) h
  rw [← h2]
  exact box_Grow.den F K (a.1) (a.2.1) (a.2.2.1) (a.2.2.2.1) (a.2.2.2.2.1) (a.2.2.2.2.2.1) (a.2.2.2.2.2.2.1) (a.2.2.2.2.2.2.2)
def l37 (K : Nat) : List (Nat × App) := (37, box_Grow.app) :: l36 K
theorem gd37 (K : Nat) : Sy.Good Try.prog fns (mkF (l37 K)) := good_cons (K := K) box_Grow.is rfl (by kernel_rfl) (by decide +kernel) envOk relOk relNp mix (gd36 K) (box_Grow.ok _ K)
/-! ### box_Shift: function 38 -/
noncomputable def box_Shift.body : Code := Try.f38.body.getD .skip
noncomputable def box_Shift.sg : List S1 := [(.agg [.i, .i, .i, .i]), (.one .i), (.one .i)]
noncomputable def box_Shift.sh : Sh := (.one (.agg [.i, .i, .i, .i]))
noncomputable def box_Shift.cf : Cfg := ⟨env, Try.f38.ntmps, Try.f38.results.toList, some box_Shift.sh, rel, [], []⟩
noncomputable def box_Shift.t : Tree := (.ask 37 [(.ex (.va 0)), (.ex (.va 1)), (.ex (.va 2)), (.ex (.va 3)), (.ex (.sub (.nu 0) (.va 4))), (.ex (.sub (.nu 0) (.va 5))), (.ex (.va 4)), (.ex (.va 5))] [.i, .i, .i, .i] (.ret [(.ex (.va 6)), (.ex (.va 7)), (.ex (.va 8)), (.ex (.va 9))]))
def box_Shift.ra : Rw (Int × Int × Int × Int × Int × Int) := (rwP rwI (rwP rwI (rwP rwI (rwP rwI (rwP rwI rwI)))))
def box_Shift.rr : Rw (Int × Int × Int × Int) := (rwP rwI (rwP rwI (rwP rwI rwI)))
theorem box_Shift.rr_en (r : Int × Int × Int × Int) : box_Shift.rr.en r = [.int r.1, .int r.2.1, .int r.2.2.1, .int r.2.2.2] := rfl
def box_Shift.f (a0_0 : Int) (a0_1 : Int) (a0_2 : Int) (a0_3 : Int) (a1 : Int) (a2 : Int) : Option (Int × Int × Int × Int) := ((box_Grow.f a0_0 a0_1 a0_2 a0_3 (wrap64 (0 - a1)) (wrap64 (0 - a2)) a1 a2).bind fun b0 => some (b0.1, b0.2.1, b0.2.2.1, b0.2.2.2))
def box_Shift.app : App := fun ps => (box_Shift.ra.de ps).bind fun x => (box_Shift.f x.1 x.2.1 x.2.2.1 x.2.2.2.1 x.2.2.2.2.1 x.2.2.2.2.2).map box_Shift.rr.en
theorem box_Shift.ap (a0_0 : Int) (a0_1 : Int) (a0_2 : Int) (a0_3 : Int) (a1 : Int) (a2 : Int) : box_Shift.app [.int a0_0, .int a0_1, .int a0_2, .int a0_3, .int a1, .int a2] = (box_Shift.f a0_0 a0_1 a0_2 a0_3 a1 a2).map box_Shift.rr.en := app_ap box_Shift.ra box_Shift.rr (fun x => box_Shift.f x.1 x.2.1 x.2.2.1 x.2.2.2.1 x.2.2.2.2.1 x.2.2.2.2.2) (a0_0, a0_1, a0_2, a0_3, a1, a2)
theorem box_Shift.is : FnIs Try.prog 38 (.init box_Shift.sg) box_Shift.t box_Shift.cf := ⟨Try.f38, box_Shift.body, 6000, Try.func38, by kernel_rfl, rfl, rfl, by decide +kernel, by kernel_rfl⟩
theorem box_Shift.den (F : FnE) (K : Nat) (h37 : F 37 = box_Grow.app) (a0_0 : Int) (a0_1 : Int) (a0_2 : Int) (a0_3 : Int) (a1 : Int) (a2 : Int) : Sy.den F K box_Shift.t [] [.int a0_0, .int a0_1, .int a0_2, .int a0_3, .int a1, .int a2] = (box_Shift.f a0_0 a0_1 a0_2 a0_3 a1 a2).map box_Shift.rr.en := by
  simp (maxSteps := 4000000) only [box_Shift.t, box_Shift.f, box_Shift.rr_en, h37, box_Grow.ap, box_Grow.rr_en, Sy.den, iterF, pds, PC.pd, E.ev, B.ev, SE.ev, LE.rows, lensEv, K4.oks, K4.ok, kSl_eq, kPt_eq, ov_prop, List.getElem?_cons_zero, List.getElem?_cons_succ, List.getElem?_map, List.cons_append, List.nil_append, List.append_nil, List.take_succ_cons, List.take_zero, List.length_map, Nat.add_zero, Nat.zero_add, Option.bind_some, Option.map_some, Option.map_none, Option.bind_none, bmap, mapb, ite_map, ite_true, Bool.true_and, Bool.and_true, Bool.and_self, decide_true, eq_self, if_true, mxi, mni, Subtype.eta, rw_iiii_en, rw_iiii_one, rw_iiii_cons, ← List.map_append]
theorem box_Shift.ok (F : FnE) (K : Nat) (h37 : F 37 = box_Grow.app) (ps r : List PD) (h : box_Shift.app ps = some r) : Sy.den F K box_Shift.t [] ps = some r := by
  obtain ⟨a, rfl, h2⟩ := app_ok (ra := box_Shift.ra) (rr := box_Shift.rr) (f := fun x => box_Shift.f x.1 x.2.1 x.2.2.1 x.2.2.2.1 x.2.2.2.2.1 x.2.2.2.2.2) h
  rw [← h2]
  exact box_Shift.den F K h37 (a.1) (a.2.1) (a.2.2.1) (a.2.2.2.1) (a.2.2.2.2.1) (a.2.2.2.2.2)
def l38 (K : Nat) : List (Nat × App) := (38, box_Shift.app) :: l37 K
theorem gd38 (K : Nat) : Sy.Good Try.prog fns (mkF (l38 K)) := good_cons (K := K) box_Shift.is rfl (by kernel_rfl) (by decide +kernel) envOk relOk relNp mix (gd37 K) (box_Shift.ok _ K rfl)
/-! ### gatherumref04_Of: function 39 -/
noncomputable def gatherumref04_Of.body : Code := Try.f39.body.getD .skip
noncomputable def gatherumref04_Of.sg : List S1 := [(.one .i), (.one .i), (.one .i), (.one .i)]
noncomputable def gatherumref04_Of.sh : Sh := (.one (.agg [.i, .i, .i, .i]))
noncomputable def gatherumref04_Of.cf : Cfg := ⟨env, Try.f39.ntmps, Try.f39.results.toList, some gatherumref04_Of.sh, rel, [], []⟩
noncomputable def gatherumref04_Of.t : Tree := (.ret [(.ex (.va 0)), (.ex (.va 1)), (.ex (.add (.va 0) (.va 2))), (.ex (.add (.va 1) (.va 3)))])
def gatherumref04_Of.ra : Rw (Int × Int × Int × Int) := (rwP rwI (rwP rwI (rwP rwI rwI)))
def gatherumref04_Of.rr : Rw (Int × Int × Int × Int) := (rwP rwI (rwP rwI (rwP rwI rwI)))
theorem gatherumref04_Of.rr_en (r : Int × Int × Int × Int) : gatherumref04_Of.rr.en r = [.int r.1, .int r.2.1, .int r.2.2.1, .int r.2.2.2] := rfl
def gatherumref04_Of.f (a0 : Int) (a1 : Int) (a2 : Int) (a3 : Int) : Option (Int × Int × Int × Int) := some (a0, a1, (wrap64 (a0 + a2)), (wrap64 (a1 + a3)))
def gatherumref04_Of.app : App := fun ps => (gatherumref04_Of.ra.de ps).bind fun x => (gatherumref04_Of.f x.1 x.2.1 x.2.2.1 x.2.2.2).map gatherumref04_Of.rr.en
theorem gatherumref04_Of.ap (a0 : Int) (a1 : Int) (a2 : Int) (a3 : Int) : gatherumref04_Of.app [.int a0, .int a1, .int a2, .int a3] = (gatherumref04_Of.f a0 a1 a2 a3).map gatherumref04_Of.rr.en := app_ap gatherumref04_Of.ra gatherumref04_Of.rr (fun x => gatherumref04_Of.f x.1 x.2.1 x.2.2.1 x.2.2.2) (a0, a1, a2, a3)
theorem gatherumref04_Of.is : FnIs Try.prog 39 (.init gatherumref04_Of.sg) gatherumref04_Of.t gatherumref04_Of.cf := ⟨Try.f39, gatherumref04_Of.body, 6000, Try.func39, by kernel_rfl, rfl, rfl, by decide +kernel, by kernel_rfl⟩
theorem gatherumref04_Of.den (F : FnE) (K : Nat) (a0 : Int) (a1 : Int) (a2 : Int) (a3 : Int) : Sy.den F K gatherumref04_Of.t [] [.int a0, .int a1, .int a2, .int a3] = (gatherumref04_Of.f a0 a1 a2 a3).map gatherumref04_Of.rr.en := by
  simp (maxSteps := 4000000) only [gatherumref04_Of.t, gatherumref04_Of.f, gatherumref04_Of.rr_en, Sy.den, iterF, pds, PC.pd, E.ev, B.ev, SE.ev, LE.rows, lensEv, K4.oks, K4.ok, kSl_eq, kPt_eq, ov_prop, List.getElem?_cons_zero, List.getElem?_cons_succ, List.getElem?_map, List.cons_append, List.nil_append, List.append_nil, List.take_succ_cons, List.take_zero, List.length_map, Nat.add_zero, Nat.zero_add, Option.bind_some, Option.map_some, Option.map_none, Option.bind_none, bmap, mapb, ite_map, ite_true, Bool.true_and, Bool.and_true, Bool.and_self, decide_true, eq_self, if_true, mxi, mni, Subtype.eta, rw_iiii_en, rw_iiii_one, rw_iiii_cons, ← List.map_append]
theorem gatherumref04_Of.ok (F : FnE) (K : Nat) (ps r : List PD) (h : gatherumref04_Of.app ps = some r) : Sy.den F K gatherumref04_Of.t [] ps = some r := by
  obtain ⟨a, rfl, h2⟩ := app_ok (ra := gatherumref04_Of.ra) (rr := gatherumref04_Of.rr) (f := fun x => gatherumref04_Of.f x.1 x.2.1 x.2.2.1 x.2.2.2) h
  rw [← h2]
  exact gatherumref04_Of.den F K (a.1) (a.2.1) (a.2.2.1) (a.2.2.2)
def l39 (K : Nat) : List (Nat × App) := (39, gatherumref04_Of.app) :: l38 K
theorem gd39 (K : Nat) : Sy.Good Try.prog fns (mkF (l39 K)) := good_cons (K := K) gatherumref04_Of.is rfl (by kernel_rfl) (by decide +kernel) envOk relOk relNp mix (gd38 K) (gatherumref04_Of.ok _ K)
/-! ### gatherumlaw04_BoxMakes: function 7 -/
noncomputable def gatherumlaw04_BoxMakes.body : Code := Try.f7.body.getD .skip
noncomputable def gatherumlaw04_BoxMakes.sg : List S1 := [(.agg [.i, .i, .i, .i]), (.agg [.i, .i, .i, .i])]
noncomputable def gatherumlaw04_BoxMakes.sh : Sh := (.one (.one .b))
noncomputable def gatherumlaw04_BoxMakes.cf : Cfg := ⟨env, Try.f7.ntmps, Try.f7.results.toList, some gatherumlaw04_BoxMakes.sh, rel, [], []⟩
noncomputable def gatherumlaw04_BoxMakes.t : Tree := (.ask 22 [] [.b] (.ite (.not (.va 8)) (.ret [(.bo (.co false))]) (.ask 35 [(.ex (.va 4)), (.ex (.va 5)), (.ex (.va 6)), (.ex (.va 7))] [.i, .i, .i, .i] (.ask 36 [(.ex (.va 9)), (.ex (.va 10)), (.ex (.va 11)), (.ex (.va 12))] [.i, .i] (.ask 37 [(.ex (.va 0)), (.ex (.va 1)), (.ex (.va 2)), (.ex (.va 3)), (.ex (.va 4)), (.ex (.va 5)), (.ex (.va 6)), (.ex (.va 7))] [.i, .i, .i, .i] (.ask 38 [(.ex (.va 0)), (.ex (.va 1)), (.ex (.va 2)), (.ex (.va 3)), (.ex (.va 4)), (.ex (.va 5))] [.i, .i, .i, .i] (.ask 39 [(.ex (.va 4)), (.ex (.va 5)), (.ex (.va 6)), (.ex (.va 7))] [.i, .i, .i, .i] (.ite (.and (.eq (.va 9) (.va 23)) (.and (.eq (.va 10) (.va 24)) (.and (.eq (.va 11) (.va 25)) (.eq (.va 12) (.va 26))))) (.ite (.eq (.va 13) (.va 6)) (.ite (.eq (.va 14) (.va 7)) (.ite (.and (.eq (.va 15) (.sub (.va 0) (.va 4))) (.and (.eq (.va 16) (.sub (.va 1) (.va 5))) (.and (.eq (.va 17) (.add (.va 2) (.va 6))) (.eq (.va 18) (.add (.va 3) (.va 7)))))) (.ret [(.bo (.and (.eq (.va 19) (.add (.va 0) (.va 4))) (.and (.eq (.va 20) (.add (.va 1) (.va 5))) (.and (.eq (.va 21) (.add (.va 2) (.va 4))) (.eq (.va 22) (.add (.va 3) (.va 5)))))))]) (.ret [(.bo (.co false))])) (.ret [(.bo (.co false))])) (.ret [(.bo (.co false))])) (.ret [(.bo (.co false))])))))))))
def gatherumlaw04_BoxMakes.ra : Rw (Int × Int × Int × Int × Int × Int × Int × Int) := (rwP rwI (rwP rwI (rwP rwI (rwP rwI (rwP rwI (rwP rwI (rwP rwI rwI)))))))
def gatherumlaw04_BoxMakes.rr : Rw (Bool) := rwB
theorem gatherumlaw04_BoxMakes.rr_en (r : Bool) : gatherumlaw04_BoxMakes.rr.en r = [.bool r] := rfl
def gatherumlaw04_BoxMakes.f (a0_0 : Int) (a0_1 : Int) (a0_2 : Int) (a0_3 : Int) (a1_0 : Int) (a1_1 : Int) (a1_2 : Int) (a1_3 : Int) : Option (Bool) := ((gatherumlaw04_alive.f).bind fun b0 => (if (!b0) = true then some false else ((box_Of.f a1_0 a1_1 a1_2 a1_3).bind fun b1 => ((box_Size.f b1.1 b1.2.1 b1.2.2.1 b1.2.2.2).bind fun b2 => ((box_Grow.f a0_0 a0_1 a0_2 a0_3 a1_0 a1_1 a1_2 a1_3).bind fun b3 => ((box_Shift.f a0_0 a0_1 a0_2 a0_3 a1_0 a1_1).bind fun b4 => ((gatherumref04_Of.f a1_0 a1_1 a1_2 a1_3).bind fun b5 => (if ((b1.1 == b5.1) && ((b1.2.1 == b5.2.1) && ((b1.2.2.1 == b5.2.2.1) && (b1.2.2.2 == b5.2.2.2)))) = true then (if (b2.1 == a1_2) = true then (if (b2.2 == a1_3) = true then (if ((b3.1 == (wrap64 (a0_0 - a1_0))) && ((b3.2.1 == (wrap64 (a0_1 - a1_1))) && ((b3.2.2.1 == (wrap64 (a0_2 + a1_2))) && (b3.2.2.2 == (wrap64 (a0_3 + a1_3)))))) = true then some ((b4.1 == (wrap64 (a0_0 + a1_0))) && ((b4.2.1 == (wrap64 (a0_1 + a1_1))) && ((b4.2.2.1 == (wrap64 (a0_2 + a1_0))) && (b4.2.2.2 == (wrap64 (a0_3 + a1_1)))))) else some false) else some false) else some false) else some false))))))))
def gatherumlaw04_BoxMakes.app : App := fun ps => (gatherumlaw04_BoxMakes.ra.de ps).bind fun x => (gatherumlaw04_BoxMakes.f x.1 x.2.1 x.2.2.1 x.2.2.2.1 x.2.2.2.2.1 x.2.2.2.2.2.1 x.2.2.2.2.2.2.1 x.2.2.2.2.2.2.2).map gatherumlaw04_BoxMakes.rr.en
theorem gatherumlaw04_BoxMakes.ap (a0_0 : Int) (a0_1 : Int) (a0_2 : Int) (a0_3 : Int) (a1_0 : Int) (a1_1 : Int) (a1_2 : Int) (a1_3 : Int) : gatherumlaw04_BoxMakes.app [.int a0_0, .int a0_1, .int a0_2, .int a0_3, .int a1_0, .int a1_1, .int a1_2, .int a1_3] = (gatherumlaw04_BoxMakes.f a0_0 a0_1 a0_2 a0_3 a1_0 a1_1 a1_2 a1_3).map gatherumlaw04_BoxMakes.rr.en := app_ap gatherumlaw04_BoxMakes.ra gatherumlaw04_BoxMakes.rr (fun x => gatherumlaw04_BoxMakes.f x.1 x.2.1 x.2.2.1 x.2.2.2.1 x.2.2.2.2.1 x.2.2.2.2.2.1 x.2.2.2.2.2.2.1 x.2.2.2.2.2.2.2) (a0_0, a0_1, a0_2, a0_3, a1_0, a1_1, a1_2, a1_3)
theorem gatherumlaw04_BoxMakes.is : FnIs Try.prog 7 (.init gatherumlaw04_BoxMakes.sg) gatherumlaw04_BoxMakes.t gatherumlaw04_BoxMakes.cf := ⟨Try.f7, gatherumlaw04_BoxMakes.body, 6000, Try.func7, by kernel_rfl, rfl, rfl, by decide +kernel, by kernel_rfl⟩
theorem gatherumlaw04_BoxMakes.den (F : FnE) (K : Nat) (h22 : F 22 = gatherumlaw04_alive.app) (h35 : F 35 = box_Of.app) (h36 : F 36 = box_Size.app) (h37 : F 37 = box_Grow.app) (h38 : F 38 = box_Shift.app) (h39 : F 39 = gatherumref04_Of.app) (a0_0 : Int) (a0_1 : Int) (a0_2 : Int) (a0_3 : Int) (a1_0 : Int) (a1_1 : Int) (a1_2 : Int) (a1_3 : Int) : Sy.den F K gatherumlaw04_BoxMakes.t [] [.int a0_0, .int a0_1, .int a0_2, .int a0_3, .int a1_0, .int a1_1, .int a1_2, .int a1_3] = (gatherumlaw04_BoxMakes.f a0_0 a0_1 a0_2 a0_3 a1_0 a1_1 a1_2 a1_3).map gatherumlaw04_BoxMakes.rr.en := by
  simp (maxSteps := 4000000) only [gatherumlaw04_BoxMakes.t, gatherumlaw04_BoxMakes.f, gatherumlaw04_BoxMakes.rr_en, h22, gatherumlaw04_alive.ap, gatherumlaw04_alive.rr_en, h35, box_Of.ap, box_Of.rr_en, h36, box_Size.ap, box_Size.rr_en, h37, box_Grow.ap, box_Grow.rr_en, h38, box_Shift.ap, box_Shift.rr_en, h39, gatherumref04_Of.ap, gatherumref04_Of.rr_en, Sy.den, iterF, pds, PC.pd, E.ev, B.ev, SE.ev, LE.rows, lensEv, K4.oks, K4.ok, kSl_eq, kPt_eq, ov_prop, List.getElem?_cons_zero, List.getElem?_cons_succ, List.getElem?_map, List.cons_append, List.nil_append, List.append_nil, List.take_succ_cons, List.take_zero, List.length_map, Nat.add_zero, Nat.zero_add, Option.bind_some, Option.map_some, Option.map_none, Option.bind_none, bmap, mapb, ite_map, ite_true, Bool.true_and, Bool.and_true, Bool.and_self, decide_true, eq_self, if_true, mxi, mni, Subtype.eta, rw_iiii_en, rw_iiii_one, rw_iiii_cons, ← List.map_append]
theorem gatherumlaw04_BoxMakes.ok (F : FnE) (K : Nat) (h22 : F 22 = gatherumlaw04_alive.app) (h35 : F 35 = box_Of.app) (h36 : F 36 = box_Size.app) (h37 : F 37 = box_Grow.app) (h38 : F 38 = box_Shift.app) (h39 : F 39 = gatherumref04_Of.app) (ps r : List PD) (h : gatherumlaw04_BoxMakes.app ps = some r) : Sy.den F K gatherumlaw04_BoxMakes.t [] ps = some r := by
  obtain ⟨a, rfl, h2⟩ := app_ok (ra := gatherumlaw04_BoxMakes.ra) (rr := gatherumlaw04_BoxMakes.rr) (f := fun x => gatherumlaw04_BoxMakes.f x.1 x.2.1 x.2.2.1 x.2.2.2.1 x.2.2.2.2.1 x.2.2.2.2.2.1 x.2.2.2.2.2.2.1 x.2.2.2.2.2.2.2) h
  rw [← h2]
  exact gatherumlaw04_BoxMakes.den F K h22 h35 h36 h37 h38 h39 (a.1) (a.2.1) (a.2.2.1) (a.2.2.2.1) (a.2.2.2.2.1) (a.2.2.2.2.2.1) (a.2.2.2.2.2.2.1) (a.2.2.2.2.2.2.2)
theorem gatherumlaw04_BoxMakes.calls (K : Nat) (a0_0 : Int) (a0_1 : Int) (a0_2 : Int) (a0_3 : Int) (a1_0 : Int) (a1_1 : Int) (a1_2 : Int) (a1_3 : Int) (w : World) (S : Nat → Prop) (hS : ∀ b, S b → b < w.heap.size) (vals : List Value) (hv : RepArgs w S gatherumlaw04_BoxMakes.sg [.int a0_0, .int a0_1, .int a0_2, .int a0_3, .int a1_0, .int a1_1, .int a1_2, .int a1_3] vals) (h : gatherumlaw04_BoxMakes.f a0_0 a0_1 a0_2 a0_3 a1_0 a1_1 a1_2 a1_3 = some true) :
    Calls Try.prog 7 vals.toArray w fun e w' => e = .returned (.bool true) ∧ Below w.heap.size w w' := by
  refine (fn_callsD (r := [.bool true]) gatherumlaw04_BoxMakes.is rfl (by decide +kernel) envOk relOk relNp mix (gd39 K) (Den_of_den _ [] [] _ (fun d j hj => by simp at hj) (by rw [gatherumlaw04_BoxMakes.den _ K rfl rfl rfl rfl rfl rfl, h]; rfl)) hS hv).mono fun e w' he => ?_
  cases e with
  | returned u => exact ⟨by rw [bool_ans he.1], he.2⟩
  | panicked c => exact he.elim
  | outgrown => exact he.elim
end Go.Proofs.Ytnahjeeochfljaa.XBoxMakes
