/- What the functions of the law SpanWithin compute: written by sygen.py from the executor's answers. -/
import Derived.Test.YtpicoedbkeljoaaSyB
import Derived.Test.YtpicoedbkeljoaaProg
import Derived.KernelRfl
set_option linter.unusedVariables false
set_option linter.unusedSimpArgs false
set_option maxRecDepth 100000
set_option maxHeartbeats 4000000
namespace Go.Proofs.Ytpicoedbkeljoaa.XSpanWithin
open Go Go.RowKit Go.Proofs Go.Proofs.Ytpicoedbkeljoaa.Sy
noncomputable def ty3 : TD := ⟨(TypeDesc.int IntKind.i64), (.int .i64 0), 1, 8⟩
noncomputable def ty4 : TD := ⟨TypeDesc.bool, (.bool false), 1, 1⟩
noncomputable def ty23 : TD := ⟨(TypeDesc.struct #[{ name := "Lo", type := 3, offset := 0, embedded := false, tag := "", pkgPath := "", byteOffset := 0 }, { name := "Hi", type := 3, offset := 1, embedded := false, tag := "", pkgPath := "", byteOffset := 8 }]), (.agg #[.int .i64 0, .int .i64 0]), 2, 16⟩
noncomputable def ty24 : TD := ⟨(TypeDesc.slice 3), (.slice none 0 0), 1, 24⟩
noncomputable def ty26 : TD := ⟨(TypeDesc.slice 23), (.slice none 0 0), 1, 24⟩
noncomputable def ty75 : TD := ⟨(TypeDesc.array 2 23), (.agg #[.int .i64 0, .int .i64 0, .int .i64 0, .int .i64 0]), 4, 32⟩
noncomputable def tys : List (Nat × TD) := [(3, ty3), (4, ty4), (23, ty23), (24, ty24), (26, ty26), (75, ty75)]
noncomputable def flats : List Nat := [23, 75]
noncomputable def kds : List (Nat × List K4) := [(3, [.i]), (4, [.b]), (23, [.i, .i]), (24, [(.l 3 1)]), (26, [(.l 23 2)]), (75, [.i, .i, .i, .i])]
noncomputable def fns : List (Nat × List S1 × Sh) := [(22, [(.agg [.i, .i])], (.one (.one .b))), (43, [(.one .i), (.one .i)], (.one (.agg [.i, .i]))), (16, [(.agg [.i, .i]), (.agg [.i, .i])], (.one (.one (.l 23 2)))), (21, [(.agg [.i, .i]), (.one .i)], (.one (.one .b))), (12, [], (.one (.one .b))), (14, [(.agg [.i, .i])], (.one (.one .b))), (18, [(.agg [.i, .i]), (.agg [.i, .i])], (.one (.one .b))), (5, [(.agg [.i, .i]), (.agg [.i, .i])], (.one (.one .b)))]
noncomputable def env : Env := ⟨tys, eqsOf tys flats flats, kds, fns⟩
noncomputable def rel : List (Nat × RelE) := []
theorem tysOk : TysOk Try.prog tys := (tys_cons (tys_cons (tys_cons (tys_cons (tys_cons (tys_cons tys_nil (t := 75) (td := ty75) Try.underlying75 (by kernel_rfl)) (t := 26) (td := ty26) Try.underlying26 (by kernel_rfl)) (t := 24) (td := ty24) Try.underlying24 (by kernel_rfl)) (t := 23) (td := ty23) Try.underlying23 (by kernel_rfl)) (t := 4) (td := ty4) Try.underlying4 (by kernel_rfl)) (t := 3) (td := ty3) Try.underlying3 (by kernel_rfl))
theorem flatOk : FlatOk Try.prog flats := (flat_cons (flat_cons flat_nil (t := 75) (by kernel_rfl) (by kernel_rfl)) (t := 23) (by kernel_rfl) (by kernel_rfl))
theorem envOk : EnvOk Try.prog env := env_ok tysOk flatOk kds fns
theorem mix : Try.prog.follows .mixedOrders = true := by kernel_rfl
theorem relOk : GoodR Try.prog rel := goodR_nil
theorem relNp : RelNoPt rel := relNoPt_nil
def l0 (K : Nat) : List (Nat × App) := []
theorem gd0 (K : Nat) : Sy.Good Try.prog fns (mkF (l0 K)) := good_nil
def kSl : Ov := ⟨.slice none 0 0, rfl⟩
theorem kSl_eq : Value.slice none 0 0 = kSl.1 := rfl
def kPt : Ov := ⟨.pointer none, rfl⟩
theorem kPt_eq : Value.pointer none = kPt.1 := rfl
def rw_ii : Rw (Int × Int) := (rwP rwI rwI)
theorem rw_ii_en (r : Int × Int) : rw_ii.en r = [.int r.1, .int r.2] := rfl
theorem rw_ii_one (r0 : Int) (r1 : Int) : ([[.int r0, .int r1]] : List (List PD)) = [(r0, r1)].map rw_ii.en := rfl
theorem rw_ii_cons (r0 : Int) (r1 : Int) (l : List (Int × Int)) : ([.int r0, .int r1] :: l.map rw_ii.en : List (List PD)) = ((r0, r1) :: l).map rw_ii.en := rfl
theorem rw_ii_nil : (PD.lst 2 [] : PD) = PD.lst 2 (([] : List (Int × Int)).map rw_ii.en) := rfl
/-! ### span_Empty: function 22 -/
noncomputable def span_Empty.body : Code := Try.f22.body.getD .skip
noncomputable def span_Empty.sg : List S1 := [(.agg [.i, .i])]
noncomputable def span_Empty.sh : Sh := (.one (.one .b))
noncomputable def span_Empty.cf : Cfg := ⟨env, Try.f22.ntmps, Try.f22.results.toList, some span_Empty.sh, rel, [], []⟩
noncomputable def span_Empty.t : Tree := (.ret [(.bo (.le (.va 1) (.va 0)))])
def span_Empty.ra : Rw (Int × Int) := (rwP rwI rwI)
def span_Empty.rr : Rw (Bool) := rwB
theorem span_Empty.rr_en (r : Bool) : span_Empty.rr.en r = [.bool r] := rfl
def span_Empty.f (a0_0 : Int) (a0_1 : Int) : Option (Bool) := some (decide (a0_1 ≤ a0_0))
def span_Empty.app : App := fun ps => (span_Empty.ra.de ps).bind fun x => (span_Empty.f x.1 x.2).map span_Empty.rr.en
theorem span_Empty.ap (a0_0 : Int) (a0_1 : Int) : span_Empty.app [.int a0_0, .int a0_1] = (span_Empty.f a0_0 a0_1).map span_Empty.rr.en := app_ap span_Empty.ra span_Empty.rr (fun x => span_Empty.f x.1 x.2) (a0_0, a0_1)
theorem span_Empty.is : FnIs Try.prog 22 (.init span_Empty.sg) span_Empty.t span_Empty.cf := ⟨Try.f22, span_Empty.body, 6000, Try.func22, by kernel_rfl, rfl, rfl, by decide +kernel, by kernel_rfl⟩
theorem span_Empty.den (F : FnE) (K : Nat) (a0_0 : Int) (a0_1 : Int) : Sy.den F K span_Empty.t [] [.int a0_0, .int a0_1] = (span_Empty.f a0_0 a0_1).map span_Empty.rr.en := by
  simp (maxSteps := 4000000) only [span_Empty.t, span_Empty.f, span_Empty.rr_en, Sy.den, iterF, pds, PC.pd, E.ev, B.ev, SE.ev, LE.rows, lensEv, K4.oks, K4.ok, kSl_eq, kPt_eq, ov_prop, List.getElem?_cons_zero, List.getElem?_cons_succ, List.getElem?_map, List.cons_append, List.nil_append, List.append_nil, List.take_succ_cons, List.take_zero, List.length_map, Nat.add_zero, Nat.zero_add, Option.bind_some, Option.map_some, Option.map_none, Option.bind_none, bmap, mapb, ite_map, ite_true, Bool.true_and, Bool.and_true, Bool.and_self, decide_true, eq_self, if_true, mxi, mni, Subtype.eta]
theorem span_Empty.ok (F : FnE) (K : Nat) (ps r : List PD) (h : span_Empty.app ps = some r) : Sy.den F K span_Empty.t [] ps = some r := by
  obtain ⟨a, rfl, h2⟩ := app_ok (ra := span_Empty.ra) (rr := span_Empty.rr) (f := fun x => span_Empty.f x.1 x.2) h
  rw [← h2]
  exact span_Empty.den F K (a.1) (a.2)
def l22 (K : Nat) : List (Nat × App) := (22, span_Empty.app) :: l0 K
theorem gd22 (K : Nat) : Sy.Good Try.prog fns (mkF (l22 K)) := good_cons (K := K) span_Empty.is rfl (by kernel_rfl) (by decide +kernel) envOk relOk relNp mix (gd0 K) (span_Empty.ok _ K)
/-! ### span_some: function 43 -/
noncomputable def span_some.body : Code := Try.f43.body.getD .skip
noncomputable def span_some.sg : List S1 := [(.one .i), (.one .i)]
noncomputable def span_some.sh : Sh := (.one (.agg [.i, .i]))
noncomputable def span_some.cf : Cfg := ⟨env, Try.f43.ntmps, Try.f43.results.toList, some span_some.sh, rel, [], []⟩
noncomputable def span_some.t : Tree := (.ite (.le (.va 1) (.va 0)) (.ret [(.ex (.nu 0)), (.ex (.nu 0))]) (.ret [(.ex (.va 0)), (.ex (.va 1))]))
def span_some.ra : Rw (Int × Int) := (rwP rwI rwI)
def span_some.rr : Rw (Int × Int) := (rwP rwI rwI)
theorem span_some.rr_en (r : Int × Int) : span_some.rr.en r = [.int r.1, .int r.2] := rfl
def span_some.f (a0 : Int) (a1 : Int) : Option (Int × Int) := (if (decide (a1 ≤ a0)) = true then some (0, 0) else some (a0, a1))
def span_some.app : App := fun ps => (span_some.ra.de ps).bind fun x => (span_some.f x.1 x.2).map span_some.rr.en
theorem span_some.ap (a0 : Int) (a1 : Int) : span_some.app [.int a0, .int a1] = (span_some.f a0 a1).map span_some.rr.en := app_ap span_some.ra span_some.rr (fun x => span_some.f x.1 x.2) (a0, a1)
theorem span_some.is : FnIs Try.prog 43 (.init span_some.sg) span_some.t span_some.cf := ⟨Try.f43, span_some.body, 6000, Try.func43, by kernel_rfl, rfl, rfl, by decide +kernel, by kernel_rfl⟩
theorem span_some.den (F : FnE) (K : Nat) (a0 : Int) (a1 : Int) : Sy.den F K span_some.t [] [.int a0, .int a1] = (span_some.f a0 a1).map span_some.rr.en := by
  simp (maxSteps := 4000000) only [span_some.t, span_some.f, span_some.rr_en, Sy.den, iterF, pds, PC.pd, E.ev, B.ev, SE.ev, LE.rows, lensEv, K4.oks, K4.ok, kSl_eq, kPt_eq, ov_prop, List.getElem?_cons_zero, List.getElem?_cons_succ, List.getElem?_map, List.cons_append, List.nil_append, List.append_nil, List.take_succ_cons, List.take_zero, List.length_map, Nat.add_zero, Nat.zero_add, Option.bind_some, Option.map_some, Option.map_none, Option.bind_none, bmap, mapb, ite_map, ite_true, Bool.true_and, Bool.and_true, Bool.and_self, decide_true, eq_self, if_true, mxi, mni, Subtype.eta]
theorem span_some.ok (F : FnE) (K : Nat) (ps r : List PD) (h : span_some.app ps = some r) : Sy.den F K span_some.t [] ps = some r := by
  obtain ⟨a, rfl, h2⟩ := app_ok (ra := span_some.ra) (rr := span_some.rr) (f := fun x => span_some.f x.1 x.2) h
  rw [← h2]
  exact span_some.den F K (a.1) (a.2)
def l43 (K : Nat) : List (Nat × App) := (43, span_some.app) :: l22 K
theorem gd43 (K : Nat) : Sy.Good Try.prog fns (mkF (l43 K)) := good_cons (K := K) span_some.is rfl (by kernel_rfl) (by decide +kernel) envOk relOk relNp mix (gd22 K) (span_some.ok _ K)
/-! ### span_Minus: function 16 -/
noncomputable def span_Minus.body : Code := Try.f16.body.getD .skip
noncomputable def span_Minus.sg : List S1 := [(.agg [.i, .i]), (.agg [.i, .i])]
noncomputable def span_Minus.sh : Sh := (.one (.one (.l 23 2)))
noncomputable def span_Minus.cf : Cfg := ⟨env, Try.f16.ntmps, Try.f16.results.toList, some span_Minus.sh, rel, [], []⟩
noncomputable def span_Minus.t : Tree := (.ask 22 [(.ex (.va 2)), (.ex (.va 3))] [.b] (.ite (.va 4) .bad (.ask 43 [(.ex (.va 0)), (.ex (.mn (.va 1) (.va 2)))] [.i, .i] (.ask 43 [(.ex (.mx (.va 0) (.va 3))), (.ex (.va 1))] [.i, .i] (.ite (.not (.and (.eq (.va 5) (.nu 0)) (.eq (.va 6) (.nu 0)))) (.ite (.not (.and (.eq (.va 7) (.nu 0)) (.eq (.va 8) (.nu 0)))) (.fix [(.row [(.ex (.va 5)), (.ex (.va 6))]), (.row [(.ex (.va 7)), (.ex (.va 8))])] 2 (.ret [(.li 9)])) (.fix [(.row [(.ex (.va 5)), (.ex (.va 6))])] 2 (.ret [(.li 9)]))) (.ite (.not (.and (.eq (.va 7) (.nu 0)) (.eq (.va 8) (.nu 0)))) (.fix [(.row [(.ex (.va 7)), (.ex (.va 8))])] 2 (.ret [(.li 9)])) (.ret [(.nl 2)])))))))
def span_Minus.ra : Rw (Int × Int × Int × Int) := (rwP rwI (rwP rwI (rwP rwI rwI)))
def span_Minus.rr : Rw (List (Int × Int)) := (rwL 23 2 rw_ii rfl)
theorem span_Minus.rr_en (r : List (Int × Int)) : span_Minus.rr.en r = [.lst 2 (r.map rw_ii.en)] := rfl
def span_Minus.f (a0_0 : Int) (a0_1 : Int) (a1_0 : Int) (a1_1 : Int) : Option (List (Int × Int)) := ((span_Empty.f a1_0 a1_1).bind fun b0 => (if b0 = true then none else ((span_some.f a0_0 (mni a0_1 a1_0)).bind fun b1 => ((span_some.f (mxi a0_0 a1_1) a0_1).bind fun b2 => (if (!((b1.1 == 0) && (b1.2 == 0))) = true then (if (!((b2.1 == 0) && (b2.2 == 0))) = true then some ((b1.1, b1.2) :: [(b2.1, b2.2)]) else some [(b1.1, b1.2)]) else (if (!((b2.1 == 0) && (b2.2 == 0))) = true then some [(b2.1, b2.2)] else some []))))))
def span_Minus.app : App := fun ps => (span_Minus.ra.de ps).bind fun x => (span_Minus.f x.1 x.2.1 x.2.2.1 x.2.2.2).map span_Minus.rr.en
theorem span_Minus.ap (a0_0 : Int) (a0_1 : Int) (a1_0 : Int) (a1_1 : Int) : span_Minus.app [.int a0_0, .int a0_1, .int a1_0, .int a1_1] = (span_Minus.f a0_0 a0_1 a1_0 a1_1).map span_Minus.rr.en := app_ap span_Minus.ra span_Minus.rr (fun x => span_Minus.f x.1 x.2.1 x.2.2.1 x.2.2.2) (a0_0, a0_1, a1_0, a1_1)
theorem span_Minus.is : FnIs Try.prog 16 (.init span_Minus.sg) span_Minus.t span_Minus.cf := ⟨Try.f16, span_Minus.body, 250, Try.func16, by kernel_rfl, rfl, rfl, by decide +kernel, by kernel_rfl⟩
theorem span_Minus.den (F : FnE) (K : Nat) (h22 : F 22 = span_Empty.app) (h43 : F 43 = span_some.app) (a0_0 : Int) (a0_1 : Int) (a1_0 : Int) (a1_1 : Int) : Sy.den F K span_Minus.t [] [.int a0_0, .int a0_1, .int a1_0, .int a1_1] = (span_Minus.f a0_0 a0_1 a1_0 a1_1).map span_Minus.rr.en := by
  simp (maxSteps := 4000000) only [span_Minus.t, span_Minus.f, span_Minus.rr_en, h22, span_Empty.ap, span_Empty.rr_en, h43, span_some.ap, span_some.rr_en, Sy.den, iterF, pds, PC.pd, E.ev, B.ev, SE.ev, LE.rows, lensEv, K4.oks, K4.ok, kSl_eq, kPt_eq, ov_prop, List.getElem?_cons_zero, List.getElem?_cons_succ, List.getElem?_map, List.cons_append, List.nil_append, List.append_nil, List.take_succ_cons, List.take_zero, List.length_map, Nat.add_zero, Nat.zero_add, Option.bind_some, Option.map_some, Option.map_none, Option.bind_none, bmap, mapb, ite_map, ite_true, Bool.true_and, Bool.and_true, Bool.and_self, decide_true, eq_self, if_true, mxi, mni, Subtype.eta, rw_ii_en, rw_ii_one, rw_ii_cons, ← List.map_append, rw_ii_nil]
theorem span_Minus.ok (F : FnE) (K : Nat) (h22 : F 22 = span_Empty.app) (h43 : F 43 = span_some.app) (ps r : List PD) (h : span_Minus.app ps = some r) : Sy.den F K span_Minus.t [] ps = some r := by
  obtain ⟨a, rfl, h2⟩ := app_ok (ra := span_Minus.ra) (rr := span_Minus.rr) (f := fun x => span_Minus.f x.1 x.2.1 x.2.2.1 x.2.2.2) h
  rw [← h2]
  exact span_Minus.den F K h22 h43 (a.1) (a.2.1) (a.2.2.1) (a.2.2.2)
def l16 (K : Nat) : List (Nat × App) := (16, span_Minus.app) :: l43 K
theorem gd16 (K : Nat) : Sy.Good Try.prog fns (mkF (l16 K)) := good_cons (K := K) span_Minus.is rfl (by kernel_rfl) (by decide +kernel) envOk relOk relNp mix (gd43 K) (span_Minus.ok _ K rfl rfl)
/-! ### span_Has: function 21 -/
noncomputable def span_Has.body : Code := Try.f21.body.getD .skip
noncomputable def span_Has.sg : List S1 := [(.agg [.i, .i]), (.one .i)]
noncomputable def span_Has.sh : Sh := (.one (.one .b))
noncomputable def span_Has.cf : Cfg := ⟨env, Try.f21.ntmps, Try.f21.results.toList, some span_Has.sh, rel, [], []⟩
noncomputable def span_Has.t : Tree := (.ite (.le (.va 0) (.va 2)) (.ret [(.bo (.lt (.va 2) (.va 1)))]) (.ret [(.bo (.co false))]))
def span_Has.ra : Rw (Int × Int × Int) := (rwP rwI (rwP rwI rwI))
def span_Has.rr : Rw (Bool) := rwB
theorem span_Has.rr_en (r : Bool) : span_Has.rr.en r = [.bool r] := rfl
def span_Has.f (a0_0 : Int) (a0_1 : Int) (a1 : Int) : Option (Bool) := (if (decide (a0_0 ≤ a1)) = true then some (decide (a1 < a0_1)) else some false)
def span_Has.app : App := fun ps => (span_Has.ra.de ps).bind fun x => (span_Has.f x.1 x.2.1 x.2.2).map span_Has.rr.en
theorem span_Has.ap (a0_0 : Int) (a0_1 : Int) (a1 : Int) : span_Has.app [.int a0_0, .int a0_1, .int a1] = (span_Has.f a0_0 a0_1 a1).map span_Has.rr.en := app_ap span_Has.ra span_Has.rr (fun x => span_Has.f x.1 x.2.1 x.2.2) (a0_0, a0_1, a1)
theorem span_Has.is : FnIs Try.prog 21 (.init span_Has.sg) span_Has.t span_Has.cf := ⟨Try.f21, span_Has.body, 6000, Try.func21, by kernel_rfl, rfl, rfl, by decide +kernel, by kernel_rfl⟩
theorem span_Has.den (F : FnE) (K : Nat) (a0_0 : Int) (a0_1 : Int) (a1 : Int) : Sy.den F K span_Has.t [] [.int a0_0, .int a0_1, .int a1] = (span_Has.f a0_0 a0_1 a1).map span_Has.rr.en := by
  simp (maxSteps := 4000000) only [span_Has.t, span_Has.f, span_Has.rr_en, Sy.den, iterF, pds, PC.pd, E.ev, B.ev, SE.ev, LE.rows, lensEv, K4.oks, K4.ok, kSl_eq, kPt_eq, ov_prop, List.getElem?_cons_zero, List.getElem?_cons_succ, List.getElem?_map, List.cons_append, List.nil_append, List.append_nil, List.take_succ_cons, List.take_zero, List.length_map, Nat.add_zero, Nat.zero_add, Option.bind_some, Option.map_some, Option.map_none, Option.bind_none, bmap, mapb, ite_map, ite_true, Bool.true_and, Bool.and_true, Bool.and_self, decide_true, eq_self, if_true, mxi, mni, Subtype.eta, rw_ii_en, rw_ii_one, rw_ii_cons, ← List.map_append]
theorem span_Has.ok (F : FnE) (K : Nat) (ps r : List PD) (h : span_Has.app ps = some r) : Sy.den F K span_Has.t [] ps = some r := by
  obtain ⟨a, rfl, h2⟩ := app_ok (ra := span_Has.ra) (rr := span_Has.rr) (f := fun x => span_Has.f x.1 x.2.1 x.2.2) h
  rw [← h2]
  exact span_Has.den F K (a.1) (a.2.1) (a.2.2)
def l21 (K : Nat) : List (Nat × App) := (21, span_Has.app) :: l16 K
theorem gd21 (K : Nat) : Sy.Good Try.prog fns (mkF (l21 K)) := good_cons (K := K) span_Has.is rfl (by kernel_rfl) (by decide +kernel) envOk relOk relNp mix (gd16 K) (span_Has.ok _ K)
/-! ### gatherumlaw03_alive: function 12 -/
noncomputable def gatherumlaw03_alive.body : Code := Try.f12.body.getD .skip
noncomputable def gatherumlaw03_alive.sg : List S1 := []
noncomputable def gatherumlaw03_alive.sh : Sh := (.one (.one .b))
noncomputable def gatherumlaw03_alive.cf : Cfg := ⟨env, Try.f12.ntmps, Try.f12.results.toList, some gatherumlaw03_alive.sh, rel, [], []⟩
noncomputable def gatherumlaw03_alive.t : Tree := (.ask 16 [(.ex (.nu 0)), (.ex (.nu 5)), (.ex (.nu 2)), (.ex (.nu 3))] [(.l 23 2)] (.ite (.eq (.lens [0] 0) (.nu 2)) (.ite (.lt (.nu 0) (.lens [0] 0)) (.get 0 (.nu 0) [.i, .i] (.ite (.and (.eq (.va 1) (.nu 0)) (.eq (.va 2) (.nu 2))) (.ite (.lt (.nu 1) (.lens [0] 0)) (.get 0 (.nu 1) [.i, .i] (.ite (.and (.eq (.va 3) (.nu 3)) (.eq (.va 4) (.nu 5))) (.ask 21 [(.ex (.va 3)), (.ex (.va 4)), (.ex (.nu 4))] [.b] (.ret [(.bo (.va 5))])) (.ret [(.bo (.co false))]))) .bad) (.ret [(.bo (.co false))]))) .bad) (.ret [(.bo (.co false))])))
def gatherumlaw03_alive.ra : Rw (Unit) := rwU
def gatherumlaw03_alive.rr : Rw (Bool) := rwB
theorem gatherumlaw03_alive.rr_en (r : Bool) : gatherumlaw03_alive.rr.en r = [.bool r] := rfl
def gatherumlaw03_alive.f : Option (Bool) := ((span_Minus.f 0 5 2 3).bind fun b0 => (if (((b0.length : Nat) : Int) == 2) = true then (if (decide (0 < ((b0.length : Nat) : Int))) = true then ((b0[(0 : Int).toNat]?).bind fun b1 => (if ((b1.1 == 0) && (b1.2 == 2)) = true then (if (decide (1 < ((b0.length : Nat) : Int))) = true then ((b0[(1 : Int).toNat]?).bind fun b2 => (if ((b2.1 == 3) && (b2.2 == 5)) = true then ((span_Has.f b2.1 b2.2 4).bind fun b3 => some b3) else some false)) else none) else some false)) else none) else some false))
def gatherumlaw03_alive.app : App := fun ps => (gatherumlaw03_alive.ra.de ps).bind fun x => (gatherumlaw03_alive.f).map gatherumlaw03_alive.rr.en
theorem gatherumlaw03_alive.ap : gatherumlaw03_alive.app [] = (gatherumlaw03_alive.f).map gatherumlaw03_alive.rr.en := app_ap gatherumlaw03_alive.ra gatherumlaw03_alive.rr (fun x => gatherumlaw03_alive.f) ()
theorem gatherumlaw03_alive.is : FnIs Try.prog 12 (.init gatherumlaw03_alive.sg) gatherumlaw03_alive.t gatherumlaw03_alive.cf := ⟨Try.f12, gatherumlaw03_alive.body, 6000, Try.func12, by kernel_rfl, rfl, rfl, by decide +kernel, by kernel_rfl⟩
theorem gatherumlaw03_alive.den (F : FnE) (K : Nat) (h16 : F 16 = span_Minus.app) (h21 : F 21 = span_Has.app) : Sy.den F K gatherumlaw03_alive.t [] [] = (gatherumlaw03_alive.f).map gatherumlaw03_alive.rr.en := by
  simp (maxSteps := 4000000) only [gatherumlaw03_alive.t, gatherumlaw03_alive.f, gatherumlaw03_alive.rr_en, h16, span_Minus.ap, span_Minus.rr_en, h21, span_Has.ap, span_Has.rr_en, Sy.den, iterF, pds, PC.pd, E.ev, B.ev, SE.ev, LE.rows, lensEv, K4.oks, K4.ok, kSl_eq, kPt_eq, ov_prop, List.getElem?_cons_zero, List.getElem?_cons_succ, List.getElem?_map, List.cons_append, List.nil_append, List.append_nil, List.take_succ_cons, List.take_zero, List.length_map, Nat.add_zero, Nat.zero_add, Option.bind_some, Option.map_some, Option.map_none, Option.bind_none, bmap, mapb, ite_map, ite_true, Bool.true_and, Bool.and_true, Bool.and_self, decide_true, eq_self, if_true, mxi, mni, Subtype.eta, rw_ii_en, rw_ii_one, rw_ii_cons, ← List.map_append]
theorem gatherumlaw03_alive.ok (F : FnE) (K : Nat) (h16 : F 16 = span_Minus.app) (h21 : F 21 = span_Has.app) (ps r : List PD) (h : gatherumlaw03_alive.app ps = some r) : Sy.den F K gatherumlaw03_alive.t [] ps = some r := by
  obtain ⟨a, rfl, h2⟩ := app_ok (ra := gatherumlaw03_alive.ra) (rr := gatherumlaw03_alive.rr) (f := fun x => gatherumlaw03_alive.f) h
  rw [← h2]
  exact gatherumlaw03_alive.den F K h16 h21
def l12 (K : Nat) : List (Nat × App) := (12, gatherumlaw03_alive.app) :: l21 K
theorem gd12 (K : Nat) : Sy.Good Try.prog fns (mkF (l12 K)) := good_cons (K := K) gatherumlaw03_alive.is rfl (by kernel_rfl) (by decide +kernel) envOk relOk relNp mix (gd21 K) (gatherumlaw03_alive.ok _ K rfl rfl)
/-! ### gatherumlaw03_empty: function 14 -/
noncomputable def gatherumlaw03_empty.body : Code := Try.f14.body.getD .skip
noncomputable def gatherumlaw03_empty.sg : List S1 := [(.agg [.i, .i])]
noncomputable def gatherumlaw03_empty.sh : Sh := (.one (.one .b))
noncomputable def gatherumlaw03_empty.cf : Cfg := ⟨env, Try.f14.ntmps, Try.f14.results.toList, some gatherumlaw03_empty.sh, rel, [], []⟩
noncomputable def gatherumlaw03_empty.t : Tree := (.ret [(.bo (.le (.va 1) (.va 0)))])
def gatherumlaw03_empty.ra : Rw (Int × Int) := (rwP rwI rwI)
def gatherumlaw03_empty.rr : Rw (Bool) := rwB
theorem gatherumlaw03_empty.rr_en (r : Bool) : gatherumlaw03_empty.rr.en r = [.bool r] := rfl
def gatherumlaw03_empty.f (a0_0 : Int) (a0_1 : Int) : Option (Bool) := some (decide (a0_1 ≤ a0_0))
def gatherumlaw03_empty.app : App := fun ps => (gatherumlaw03_empty.ra.de ps).bind fun x => (gatherumlaw03_empty.f x.1 x.2).map gatherumlaw03_empty.rr.en
theorem gatherumlaw03_empty.ap (a0_0 : Int) (a0_1 : Int) : gatherumlaw03_empty.app [.int a0_0, .int a0_1] = (gatherumlaw03_empty.f a0_0 a0_1).map gatherumlaw03_empty.rr.en := app_ap gatherumlaw03_empty.ra gatherumlaw03_empty.rr (fun x => gatherumlaw03_empty.f x.1 x.2) (a0_0, a0_1)
theorem gatherumlaw03_empty.is : FnIs Try.prog 14 (.init gatherumlaw03_empty.sg) gatherumlaw03_empty.t gatherumlaw03_empty.cf := ⟨Try.f14, gatherumlaw03_empty.body, 6000, Try.func14, by kernel_rfl, rfl, rfl, by decide +kernel, by kernel_rfl⟩
theorem gatherumlaw03_empty.den (F : FnE) (K : Nat) (a0_0 : Int) (a0_1 : Int) : Sy.den F K gatherumlaw03_empty.t [] [.int a0_0, .int a0_1] = (gatherumlaw03_empty.f a0_0 a0_1).map gatherumlaw03_empty.rr.en := by
  simp (maxSteps := 4000000) only [gatherumlaw03_empty.t, gatherumlaw03_empty.f, gatherumlaw03_empty.rr_en, Sy.den, iterF, pds, PC.pd, E.ev, B.ev, SE.ev, LE.rows, lensEv, K4.oks, K4.ok, kSl_eq, kPt_eq, ov_prop, List.getElem?_cons_zero, List.getElem?_cons_succ, List.getElem?_map, List.cons_append, List.nil_append, List.append_nil, List.take_succ_cons, List.take_zero, List.length_map, Nat.add_zero, Nat.zero_add, Option.bind_some, Option.map_some, Option.map_none, Option.bind_none, bmap, mapb, ite_map, ite_true, Bool.true_and, Bool.and_true, Bool.and_self, decide_true, eq_self, if_true, mxi, mni, Subtype.eta, rw_ii_en, rw_ii_one, rw_ii_cons, ← List.map_append]
theorem gatherumlaw03_empty.ok (F : FnE) (K : Nat) (ps r : List PD) (h : gatherumlaw03_empty.app ps = some r) : Sy.den F K gatherumlaw03_empty.t [] ps = some r := by
  obtain ⟨a, rfl, h2⟩ := app_ok (ra := gatherumlaw03_empty.ra) (rr := gatherumlaw03_empty.rr) (f := fun x => gatherumlaw03_empty.f x.1 x.2) h
  rw [← h2]
  exact gatherumlaw03_empty.den F K (a.1) (a.2)
def l14 (K : Nat) : List (Nat × App) := (14, gatherumlaw03_empty.app) :: l12 K
theorem gd14 (K : Nat) : Sy.Good Try.prog fns (mkF (l14 K)) := good_cons (K := K) gatherumlaw03_empty.is rfl (by kernel_rfl) (by decide +kernel) envOk relOk relNp mix (gd12 K) (gatherumlaw03_empty.ok _ K)
/-! ### span_Within: function 18 -/
noncomputable def span_Within.body : Code := Try.f18.body.getD .skip
noncomputable def span_Within.sg : List S1 := [(.agg [.i, .i]), (.agg [.i, .i])]
noncomputable def span_Within.sh : Sh := (.one (.one .b))
noncomputable def span_Within.cf : Cfg := ⟨env, Try.f18.ntmps, Try.f18.results.toList, some span_Within.sh, rel, [], []⟩
noncomputable def span_Within.t : Tree := (.ask 22 [(.ex (.va 0)), (.ex (.va 1))] [.b] (.ite (.va 4) (.ret [(.bo (.co true))]) (.ite (.le (.va 2) (.va 0)) (.ret [(.bo (.le (.va 1) (.va 3)))]) (.ret [(.bo (.co false))]))))
def span_Within.ra : Rw (Int × Int × Int × Int) := (rwP rwI (rwP rwI (rwP rwI rwI)))
def span_Within.rr : Rw (Bool) := rwB
theorem span_Within.rr_en (r : Bool) : span_Within.rr.en r = [.bool r] := rfl
def span_Within.f (a0_0 : Int) (a0_1 : Int) (a1_0 : Int) (a1_1 : Int) : Option (Bool) := ((span_Empty.f a0_0 a0_1).bind fun b0 => (if b0 = true then some true else (if (decide (a1_0 ≤ a0_0)) = true then some (decide (a0_1 ≤ a1_1)) else some false)))
def span_Within.app : App := fun ps => (span_Within.ra.de ps).bind fun x => (span_Within.f x.1 x.2.1 x.2.2.1 x.2.2.2).map span_Within.rr.en
theorem span_Within.ap (a0_0 : Int) (a0_1 : Int) (a1_0 : Int) (a1_1 : Int) : span_Within.app [.int a0_0, .int a0_1, .int a1_0, .int a1_1] = (span_Within.f a0_0 a0_1 a1_0 a1_1).map span_Within.rr.en := app_ap span_Within.ra span_Within.rr (fun x => span_Within.f x.1 x.2.1 x.2.2.1 x.2.2.2) (a0_0, a0_1, a1_0, a1_1)
theorem span_Within.is : FnIs Try.prog 18 (.init span_Within.sg) span_Within.t span_Within.cf := ⟨Try.f18, span_Within.body, 6000, Try.func18, by kernel_rfl, rfl, rfl, by decide +kernel, by kernel_rfl⟩
theorem span_Within.den (F : FnE) (K : Nat) (h22 : F 22 = span_Empty.app) (a0_0 : Int) (a0_1 : Int) (a1_0 : Int) (a1_1 : Int) : Sy.den F K span_Within.t [] [.int a0_0, .int a0_1, .int a1_0, .int a1_1] = (span_Within.f a0_0 a0_1 a1_0 a1_1).map span_Within.rr.en := by
  simp (maxSteps := 4000000) only [span_Within.t, span_Within.f, span_Within.rr_en, h22, span_Empty.ap, span_Empty.rr_en, Sy.den, iterF, pds, PC.pd, E.ev, B.ev, SE.ev, LE.rows, lensEv, K4.oks, K4.ok, kSl_eq, kPt_eq, ov_prop, List.getElem?_cons_zero, List.getElem?_cons_succ, List.getElem?_map, List.cons_append, List.nil_append, List.append_nil, List.take_succ_cons, List.take_zero, List.length_map, Nat.add_zero, Nat.zero_add, Option.bind_some, Option.map_some, Option.map_none, Option.bind_none, bmap, mapb, ite_map, ite_true, Bool.true_and, Bool.and_true, Bool.and_self, decide_true, eq_self, if_true, mxi, mni, Subtype.eta, rw_ii_en, rw_ii_one, rw_ii_cons, ← List.map_append]
theorem span_Within.ok (F : FnE) (K : Nat) (h22 : F 22 = span_Empty.app) (ps r : List PD) (h : span_Within.app ps = some r) : Sy.den F K span_Within.t [] ps = some r := by
  obtain ⟨a, rfl, h2⟩ := app_ok (ra := span_Within.ra) (rr := span_Within.rr) (f := fun x => span_Within.f x.1 x.2.1 x.2.2.1 x.2.2.2) h
  rw [← h2]
  exact span_Within.den F K h22 (a.1) (a.2.1) (a.2.2.1) (a.2.2.2)
def l18 (K : Nat) : List (Nat × App) := (18, span_Within.app) :: l14 K
theorem gd18 (K : Nat) : Sy.Good Try.prog fns (mkF (l18 K)) := good_cons (K := K) span_Within.is rfl (by kernel_rfl) (by decide +kernel) envOk relOk relNp mix (gd14 K) (span_Within.ok _ K rfl)
/-! ### gatherumlaw03_SpanWithin: function 5 -/
noncomputable def gatherumlaw03_SpanWithin.body : Code := Try.f5.body.getD .skip
noncomputable def gatherumlaw03_SpanWithin.sg : List S1 := [(.agg [.i, .i]), (.agg [.i, .i])]
noncomputable def gatherumlaw03_SpanWithin.sh : Sh := (.one (.one .b))
noncomputable def gatherumlaw03_SpanWithin.cf : Cfg := ⟨env, Try.f5.ntmps, Try.f5.results.toList, some gatherumlaw03_SpanWithin.sh, rel, [], []⟩
noncomputable def gatherumlaw03_SpanWithin.t : Tree := (.ask 12 [] [.b] (.ite (.not (.va 4)) (.ret [(.bo (.co false))]) (.ask 18 [(.ex (.va 0)), (.ex (.va 1)), (.ex (.va 2)), (.ex (.va 3))] [.b] (.ask 14 [(.ex (.va 0)), (.ex (.va 1))] [.b] (.ite (.va 6) (.ret [(.bo (.va 5))]) (.ite (.le (.va 2) (.va 0)) (.ret [(.bo (.eqb (.va 5) (.le (.va 1) (.va 3))))]) (.ret [(.bo (.not (.va 5)))])))))))
def gatherumlaw03_SpanWithin.ra : Rw (Int × Int × Int × Int) := (rwP rwI (rwP rwI (rwP rwI rwI)))
def gatherumlaw03_SpanWithin.rr : Rw (Bool) := rwB
theorem gatherumlaw03_SpanWithin.rr_en (r : Bool) : gatherumlaw03_SpanWithin.rr.en r = [.bool r] := rfl
def gatherumlaw03_SpanWithin.f (a0_0 : Int) (a0_1 : Int) (a1_0 : Int) (a1_1 : Int) : Option (Bool) := ((gatherumlaw03_alive.f).bind fun b0 => (if (!b0) = true then some false else ((span_Within.f a0_0 a0_1 a1_0 a1_1).bind fun b1 => ((gatherumlaw03_empty.f a0_0 a0_1).bind fun b2 => (if b2 = true then some b1 else (if (decide (a1_0 ≤ a0_0)) = true then some (b1 == (decide (a0_1 ≤ a1_1))) else some (!b1)))))))
def gatherumlaw03_SpanWithin.app : App := fun ps => (gatherumlaw03_SpanWithin.ra.de ps).bind fun x => (gatherumlaw03_SpanWithin.f x.1 x.2.1 x.2.2.1 x.2.2.2).map gatherumlaw03_SpanWithin.rr.en
theorem gatherumlaw03_SpanWithin.ap (a0_0 : Int) (a0_1 : Int) (a1_0 : Int) (a1_1 : Int) : gatherumlaw03_SpanWithin.app [.int a0_0, .int a0_1, .int a1_0, .int a1_1] = (gatherumlaw03_SpanWithin.f a0_0 a0_1 a1_0 a1_1).map gatherumlaw03_SpanWithin.rr.en := app_ap gatherumlaw03_SpanWithin.ra gatherumlaw03_SpanWithin.rr (fun x => gatherumlaw03_SpanWithin.f x.1 x.2.1 x.2.2.1 x.2.2.2) (a0_0, a0_1, a1_0, a1_1)
theorem gatherumlaw03_SpanWithin.is : FnIs Try.prog 5 (.init gatherumlaw03_SpanWithin.sg) gatherumlaw03_SpanWithin.t gatherumlaw03_SpanWithin.cf := ⟨Try.f5, gatherumlaw03_SpanWithin.body, 6000, Try.func5, by kernel_rfl, rfl, rfl, by decide +kernel, by kernel_rfl⟩
theorem gatherumlaw03_SpanWithin.den (F : FnE) (K : Nat) (h12 : F 12 = gatherumlaw03_alive.app) (h14 : F 14 = gatherumlaw03_empty.app) (h18 : F 18 = span_Within.app) (a0_0 : Int) (a0_1 : Int) (a1_0 : Int) (a1_1 : Int) : Sy.den F K gatherumlaw03_SpanWithin.t [] [.int a0_0, .int a0_1, .int a1_0, .int a1_1] = (gatherumlaw03_SpanWithin.f a0_0 a0_1 a1_0 a1_1).map gatherumlaw03_SpanWithin.rr.en := by
  simp (maxSteps := 4000000) only [gatherumlaw03_SpanWithin.t, gatherumlaw03_SpanWithin.f, gatherumlaw03_SpanWithin.rr_en, h12, gatherumlaw03_alive.ap, gatherumlaw03_alive.rr_en, h14, gatherumlaw03_empty.ap, gatherumlaw03_empty.rr_en, h18, span_Within.ap, span_Within.rr_en, Sy.den, iterF, pds, PC.pd, E.ev, B.ev, SE.ev, LE.rows, lensEv, K4.oks, K4.ok, kSl_eq, kPt_eq, ov_prop, List.getElem?_cons_zero, List.getElem?_cons_succ, List.getElem?_map, List.cons_append, List.nil_append, List.append_nil, List.take_succ_cons, List.take_zero, List.length_map, Nat.add_zero, Nat.zero_add, Option.bind_some, Option.map_some, Option.map_none, Option.bind_none, bmap, mapb, ite_map, ite_true, Bool.true_and, Bool.and_true, Bool.and_self, decide_true, eq_self, if_true, mxi, mni, Subtype.eta, rw_ii_en, rw_ii_one, rw_ii_cons, ← List.map_append]
theorem gatherumlaw03_SpanWithin.ok (F : FnE) (K : Nat) (h12 : F 12 = gatherumlaw03_alive.app) (h14 : F 14 = gatherumlaw03_empty.app) (h18 : F 18 = span_Within.app) (ps r : List PD) (h : gatherumlaw03_SpanWithin.app ps = some r) : Sy.den F K gatherumlaw03_SpanWithin.t [] ps = some r := by
  obtain ⟨a, rfl, h2⟩ := app_ok (ra := gatherumlaw03_SpanWithin.ra) (rr := gatherumlaw03_SpanWithin.rr) (f := fun x => gatherumlaw03_SpanWithin.f x.1 x.2.1 x.2.2.1 x.2.2.2) h
  rw [← h2]
  exact gatherumlaw03_SpanWithin.den F K h12 h14 h18 (a.1) (a.2.1) (a.2.2.1) (a.2.2.2)
theorem gatherumlaw03_SpanWithin.calls (K : Nat) (a0_0 : Int) (a0_1 : Int) (a1_0 : Int) (a1_1 : Int) (w : World) (S : Nat → Prop) (hS : ∀ b, S b → b < w.heap.size) (vals : List Value) (hv : RepArgs w S gatherumlaw03_SpanWithin.sg [.int a0_0, .int a0_1, .int a1_0, .int a1_1] vals) (h : gatherumlaw03_SpanWithin.f a0_0 a0_1 a1_0 a1_1 = some true) :
    Calls Try.prog 5 vals.toArray w fun e w' => e = .returned (.bool true) ∧ Below w.heap.size w w' := by
  refine (fn_callsD (r := [.bool true]) gatherumlaw03_SpanWithin.is rfl (by decide +kernel) envOk relOk relNp mix (gd18 K) (Den_of_den _ [] [] _ (fun d j hj => by simp at hj) (by rw [gatherumlaw03_SpanWithin.den _ K rfl rfl rfl, h]; rfl)) hS hv).mono fun e w' he => ?_
  cases e with
  | returned u => exact ⟨by rw [bool_ans he.1], he.2⟩
  | panicked c => exact he.elim
  | outgrown => exact he.elim
end Go.Proofs.Ytpicoedbkeljoaa.XSpanWithin
