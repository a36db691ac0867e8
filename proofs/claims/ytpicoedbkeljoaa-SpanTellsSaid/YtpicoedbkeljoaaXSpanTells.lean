/- What the functions of the law SpanTells compute: written by sygen.py from the executor's answers. -/
import Derived.Test.YtpicoedbkeljoaaSyB
import Derived.Test.YtpicoedbkeljoaaProg
import Derived.KernelRfl
set_option linter.unusedVariables false
set_option linter.unusedSimpArgs false
set_option maxRecDepth 100000
set_option maxHeartbeats 4000000
namespace Go.Proofs.Ytpicoedbkeljoaa.XSpanTells
open Go Go.RowKit Go.Proofs Go.Proofs.Ytpicoedbkeljoaa.Sy
noncomputable def ty3 : TD := ⟨(TypeDesc.int IntKind.i64), (.int .i64 0), 1, 8⟩
noncomputable def ty4 : TD := ⟨TypeDesc.bool, (.bool false), 1, 1⟩
noncomputable def ty23 : TD := ⟨(TypeDesc.struct #[{ name := "Lo", type := 3, offset := 0, embedded := false, tag := "", pkgPath := "", byteOffset := 0 }, { name := "Hi", type := 3, offset := 1, embedded := false, tag := "", pkgPath := "", byteOffset := 8 }]), (.agg #[.int .i64 0, .int .i64 0]), 2, 16⟩
noncomputable def ty24 : TD := ⟨(TypeDesc.slice 3), (.slice none 0 0), 1, 24⟩
noncomputable def ty26 : TD := ⟨(TypeDesc.slice 23), (.slice none 0 0), 1, 24⟩
noncomputable def ty75 : TD := ⟨(TypeDesc.array 2 23), (.agg #[.int .i64 0, .int .i64 0, .int .i64 0, .int .i64 0]), 4, 32⟩
noncomputable def tys : List (Nat × TD) := [(3, ty3), (4, ty4), (23, ty23), (24, ty24), (26, ty26), (75, ty75)]
noncomputable def flats : List Nat := [23, 75]
noncomputable def kds : List (Nat × List K4) := [(3, [.i]), (4, [.b]), (23, [.i, .i]), (24, [(.l 3 1)]), (26, [(.l 23 2)]), (75, [.i, .i, .i, .i])]
noncomputable def fns : List (Nat × List S1 × Sh) := [(22, [(.agg [.i, .i])], (.one (.one .b))), (43, [(.one .i), (.one .i)], (.one (.agg [.i, .i]))), (16, [(.agg [.i, .i]), (.agg [.i, .i])], (.one (.one (.l 23 2)))), (21, [(.agg [.i, .i]), (.one .i)], (.one (.one .b))), (12, [], (.one (.one .b))), (14, [(.agg [.i, .i])], (.one (.one .b))), (17, [(.agg [.i, .i]), (.one .i)], (.one (.one .b))), (18, [(.agg [.i, .i]), (.agg [.i, .i])], (.one (.one .b))), (19, [(.agg [.i, .i]), (.agg [.i, .i])], (.one (.agg [.i, .i]))), (20, [(.agg [.i, .i]), (.agg [.i, .i])], (.one (.agg [.i, .i]))), (23, [(.agg [.i, .i]), (.agg [.i, .i])], (.one (.one .b))), (6, [(.agg [.i, .i]), (.agg [.i, .i]), (.one .i)], (.one (.one .b)))]
noncomputable def env : Env := ⟨tys, eqsOf tys flats flats, kds, fns⟩
noncomputable def rel : List (Nat × RelE) := []
theorem tysOk : TysOk Try.prog tys := (tys_cons (tys_cons (tys_cons (tys_cons (tys_cons (tys_cons tys_nil (t := 75) (td := ty75) Try.underlying75 (by kernel_rfl)) (t := 26) (td := ty26) Try.underlying26 (by kernel_rfl)) (t := 24) (td := ty24) Try.underlying24 (by kernel_rfl)) (t := 23) (td := ty23) Try.underlying23 (by kernel_rfl)) (t := 4) (td := ty4) Try.underlying4 (by kernel_rfl)) (t := 3) (td := ty3) Try.underlying3 (by kernel_rfl))
theorem flatOk : FlatOk Try.prog flats := (flat_cons (flat_cons flat_nil (t := 75) (by kernel_rfl) (by kernel_rfl)) (t := 23) (by kernel_rfl) (by kernel_rfl))
theorem envOk : EnvOk Try.prog env := env_ok tysOk flatOk kds fns
theorem mix : Try.prog.follows .mixedOrders = true := by kernel_rfl
theorem relOk : GoodR Try.prog rel := goodR_nil
theorem relNp : RelNoPt rel := relNoPt_nil
def l0 (K : Nat) : List (Nat × App) := []
theorem gd0 (K : Nat) : Sy.Good Try.prog fns (mkF (l0 K)) := good_nil
def kSl : Ov := ⟨.slice none 0 0, rfl⟩
theorem kSl_eq : Value.slice none 0 0 = kSl.1 := rfl
def kPt : Ov := ⟨.pointer none, rfl⟩
theorem kPt_eq : Value.pointer none = kPt.1 := rfl
def rw_ii : Rw (Int × Int) := (rwP rwI rwI)
theorem rw_ii_en (r : Int × Int) : rw_ii.en r = [.int r.1, .int r.2] := rfl
theorem rw_ii_one (r0 : Int) (r1 : Int) : ([[.int r0, .int r1]] : List (List PD)) = [(r0, r1)].map rw_ii.en := rfl
theorem rw_ii_cons (r0 : Int) (r1 : Int) (l : List (Int × Int)) : ([.int r0, .int r1] :: l.map rw_ii.en : List (List PD)) = ((r0, r1) :: l).map rw_ii.en := rfl
theorem rw_ii_nil : (PD.lst 2 [] : PD) = PD.lst 2 (([] : List (Int × Int)).map rw_ii.en) := rfl
theorem den_ite {F : FnE} {K : Nat} {c : B} {x y : Tree} {Js : List (List PD → Option (List PD))} {ρ : List PD} {b : Bool} {α : Type} {X Y : Option α} {g : α → List PD} (hc : c.ev ρ = some b) (hx : Sy.den F K x Js ρ = X.map g) (hy : Sy.den F K y Js ρ = Y.map g) : Sy.den F K (.ite c x y) Js ρ = (if b = true then X else Y).map g := by
  rw [Sy.den, hc, Option.bind_some]; cases b
  · exact hy
  · exact hx
theorem den_ask {F : FnE} {K f : Nat} {args : List PC} {ks : List K4} {k : Tree} {Js : List (List PD → Option (List PD))} {ρ ps : List PD} {α β : Type} {G : Option β} {X : β → Option α} {g : α → List PD} {rr : Rw β} (ha : F f ps = G.map rr.en) (hp : pds ρ args = some ps) (hk : rr.ks = ks) (h : ∀ b, Sy.den F K k Js (ρ ++ rr.en b) = (X b).map g) : Sy.den F K (.ask f args ks k) Js ρ = (G.bind X).map g := by
  rw [Sy.den, hp, Option.bind_some, ha]
  cases G with
  | none => rfl
  | some b => subst hk; simp only [Option.map_some, Option.bind_some, rr.hok, if_true]; exact h b
theorem den_get {F : FnE} {K l sz : Nat} {i : E} {ks : List K4} {k : Tree} {Js : List (List PD → Option (List PD))} {ρ : List PD} {α β : Type} {L : List β} {X : β → Option α} {g : α → List PD} {rw : Rw β} {iv : Int} (hl : ρ[l]? = some (.lst sz (L.map rw.en))) (hi : i.ev ρ = some iv) (hk : rw.ks = ks) (h : ∀ b, Sy.den F K k Js (ρ ++ rw.en b) = (X b).map g) : Sy.den F K (.get l i ks k) Js ρ = ((L[iv.toNat]?).bind X).map g := by
  rw [Sy.den, hl]
  simp only [hi, Option.bind_some, List.getElem?_map]
  cases L[iv.toNat]? with
  | none => rfl
  | some b => subst hk; simp only [Option.map_some, Option.bind_some, rw.hok, if_true]; exact h b
theorem den_fix {F : FnE} {K sz : Nat} {L : LE} {k : Tree} {Js : List (List PD → Option (List PD))} {ρ : List PD} {α : Type} {rows : List (List PD)} {X : Option α} {g : α → List PD} (hL : LE.rows ρ L = some rows) (h : Sy.den F K k Js (ρ ++ [.lst sz rows]) = X.map g) : Sy.den F K (.fix L sz k) Js ρ = X.map g := by
  rw [Sy.den, hL]; exact h
theorem den_loop {F : FnE} {K : Nat} {args : List PC} {ks : List K4} {body : Tree} {Js : List (List PD → Option (List PD))} {ρ vs : List PD} {α : Type} {X : Option α} {g : α → List PD} (hp : pds ρ args = some vs) (h : iterF (fun J ρ' => Sy.den F K body (J :: Js) ρ') K (ρ ++ vs) = X.map g) : Sy.den F K (.loop args ks body) Js ρ = X.map g := by
  rw [Sy.den, hp]; exact h
theorem den_back {F : FnE} {K d p0 : Nat} {args : List PC} {Js : List (List PD → Option (List PD))} {ρ vs : List PD} {α : Type} {X : Option α} {g : α → List PD} {J : List PD → Option (List PD)} (hp : pds ρ args = some vs) (hJ : Js[d]? = some J) (h : J (ρ.take p0 ++ vs) = X.map g) : Sy.den F K (.back d p0 args) Js ρ = X.map g := by
  rw [Sy.den, hp, Option.bind_some, hJ]; exact h
theorem den_ret {F : FnE} {K : Nat} {l : List PC} {Js : List (List PD → Option (List PD))} {ρ : List PD} {α : Type} {X : Option α} {g : α → List PD} (hp : pds ρ l = X.map g) : Sy.den F K (.ret l) Js ρ = X.map g := hp
theorem den_bad (F : FnE) (K : Nat) (Js : List (List PD → Option (List PD))) (ρ : List PD) {α : Type} (g : α → List PD) : Sy.den F K .bad Js ρ = (none : Option α).map g := rfl
/-! ### span_Empty: function 22 -/
noncomputable def span_Empty.body : Code := Try.f22.body.getD .skip
noncomputable def span_Empty.sg : List S1 := [(.agg [.i, .i])]
noncomputable def span_Empty.sh : Sh := (.one (.one .b))
noncomputable def span_Empty.cf : Cfg := ⟨env, Try.f22.ntmps, Try.f22.results.toList, some span_Empty.sh, rel, [], []⟩
noncomputable def span_Empty.t : Tree := (.ret [(.bo (.le (.va 1) (.va 0)))])
def span_Empty.ra : Rw (Int × Int) := (rwP rwI rwI)
def span_Empty.rr : Rw (Bool) := rwB
theorem span_Empty.rr_en (r : Bool) : span_Empty.rr.en r = [.bool r] := rfl
def span_Empty.f (a0_0 : Int) (a0_1 : Int) : Option (Bool) := some (decide (a0_1 ≤ a0_0))
def span_Empty.app : App := fun ps => (span_Empty.ra.de ps).bind fun x => (span_Empty.f x.1 x.2).map span_Empty.rr.en
theorem span_Empty.ap (a0_0 : Int) (a0_1 : Int) : span_Empty.app [.int a0_0, .int a0_1] = (span_Empty.f a0_0 a0_1).map span_Empty.rr.en := app_ap span_Empty.ra span_Empty.rr (fun x => span_Empty.f x.1 x.2) (a0_0, a0_1)
theorem span_Empty.is : FnIs Try.prog 22 (.init span_Empty.sg) span_Empty.t span_Empty.cf := ⟨Try.f22, span_Empty.body, 6000, Try.func22, by kernel_rfl, rfl, rfl, by decide +kernel, by kernel_rfl⟩
theorem span_Empty.den (F : FnE) (K : Nat) (a0_0 : Int) (a0_1 : Int) : Sy.den F K span_Empty.t [] [.int a0_0, .int a0_1] = (span_Empty.f a0_0 a0_1).map span_Empty.rr.en := by
  unfold span_Empty.t span_Empty.f
  exact den_ret rfl
theorem span_Empty.ok (F : FnE) (K : Nat) (ps r : List PD) (h : span_Empty.app ps = some r) : Sy.den F K span_Empty.t [] ps = some r := by
  obtain ⟨a, rfl, h2⟩ := app_ok (ra := span_Empty.ra) (rr := span_Empty.rr) (f := fun x => span_Empty.f x.1 x.2) h
  rw [← h2]
  exact span_Empty.den F K (a.1) (a.2)
def l22 (K : Nat) : List (Nat × App) := (22, span_Empty.app) :: l0 K
theorem gd22 (K : Nat) : Sy.Good Try.prog fns (mkF (l22 K)) := good_cons (K := K) span_Empty.is rfl (by kernel_rfl) (by decide +kernel) envOk relOk relNp mix (gd0 K) (span_Empty.ok _ K)
/-! ### span_some: function 43 -/
noncomputable def span_some.body : Code := Try.f43.body.getD .skip
noncomputable def span_some.sg : List S1 := [(.one .i), (.one .i)]
noncomputable def span_some.sh : Sh := (.one (.agg [.i, .i]))
noncomputable def span_some.cf : Cfg := ⟨env, Try.f43.ntmps, Try.f43.results.toList, some span_some.sh, rel, [], []⟩
noncomputable def span_some.t : Tree := (.ite (.le (.va 1) (.va 0)) (.ret [(.ex (.nu 0)), (.ex (.nu 0))]) (.ret [(.ex (.va 0)), (.ex (.va 1))]))
def span_some.ra : Rw (Int × Int) := (rwP rwI rwI)
def span_some.rr : Rw (Int × Int) := (rwP rwI rwI)
theorem span_some.rr_en (r : Int × Int) : span_some.rr.en r = [.int r.1, .int r.2] := rfl
def span_some.f (a0 : Int) (a1 : Int) : Option (Int × Int) := (if (decide (a1 ≤ a0)) = true then some (0, 0) else some (a0, a1))
def span_some.app : App := fun ps => (span_some.ra.de ps).bind fun x => (span_some.f x.1 x.2).map span_some.rr.en
theorem span_some.ap (a0 : Int) (a1 : Int) : span_some.app [.int a0, .int a1] = (span_some.f a0 a1).map span_some.rr.en := app_ap span_some.ra span_some.rr (fun x => span_some.f x.1 x.2) (a0, a1)
theorem span_some.is : FnIs Try.prog 43 (.init span_some.sg) span_some.t span_some.cf := ⟨Try.f43, span_some.body, 6000, Try.func43, by kernel_rfl, rfl, rfl, by decide +kernel, by kernel_rfl⟩
theorem span_some.den (F : FnE) (K : Nat) (a0 : Int) (a1 : Int) : Sy.den F K span_some.t [] [.int a0, .int a1] = (span_some.f a0 a1).map span_some.rr.en := by
  unfold span_some.t span_some.f
  refine den_ite (b := (decide (a1 ≤ a0))) rfl ?_ ?_
  exact den_ret rfl
  exact den_ret rfl
theorem span_some.ok (F : FnE) (K : Nat) (ps r : List PD) (h : span_some.app ps = some r) : Sy.den F K span_some.t [] ps = some r := by
  obtain ⟨a, rfl, h2⟩ := app_ok (ra := span_some.ra) (rr := span_some.rr) (f := fun x => span_some.f x.1 x.2) h
  rw [← h2]
  exact span_some.den F K (a.1) (a.2)
def l43 (K : Nat) : List (Nat × App) := (43, span_some.app) :: l22 K
theorem gd43 (K : Nat) : Sy.Good Try.prog fns (mkF (l43 K)) := good_cons (K := K) span_some.is rfl (by kernel_rfl) (by decide +kernel) envOk relOk relNp mix (gd22 K) (span_some.ok _ K)
/-! ### span_Minus: function 16 -/
noncomputable def span_Minus.body : Code := Try.f16.body.getD .skip
noncomputable def span_Minus.sg : List S1 := [(.agg [.i, .i]), (.agg [.i, .i])]
noncomputable def span_Minus.sh : Sh := (.one (.one (.l 23 2)))
noncomputable def span_Minus.cf : Cfg := ⟨env, Try.f16.ntmps, Try.f16.results.toList, some span_Minus.sh, rel, [], []⟩
noncomputable def span_Minus.t : Tree := (.ask 22 [(.ex (.va 2)), (.ex (.va 3))] [.b] (.ite (.va 4) .bad (.ask 43 [(.ex (.va 0)), (.ex (.mn (.va 1) (.va 2)))] [.i, .i] (.ask 43 [(.ex (.mx (.va 0) (.va 3))), (.ex (.va 1))] [.i, .i] (.ite (.not (.and (.eq (.va 5) (.nu 0)) (.eq (.va 6) (.nu 0)))) (.ite (.not (.and (.eq (.va 7) (.nu 0)) (.eq (.va 8) (.nu 0)))) (.fix [(.row [(.ex (.va 5)), (.ex (.va 6))]), (.row [(.ex (.va 7)), (.ex (.va 8))])] 2 (.ret [(.li 9)])) (.fix [(.row [(.ex (.va 5)), (.ex (.va 6))])] 2 (.ret [(.li 9)]))) (.ite (.not (.and (.eq (.va 7) (.nu 0)) (.eq (.va 8) (.nu 0)))) (.fix [(.row [(.ex (.va 7)), (.ex (.va 8))])] 2 (.ret [(.li 9)])) (.ret [(.nl 2)])))))))
def span_Minus.ra : Rw (Int × Int × Int × Int) := (rwP rwI (rwP rwI (rwP rwI rwI)))
def span_Minus.rr : Rw (List (Int × Int)) := (rwL 23 2 rw_ii rfl)
theorem span_Minus.rr_en (r : List (Int × Int)) : span_Minus.rr.en r = [.lst 2 (r.map rw_ii.en)] := rfl
def span_Minus.f (a0_0 : Int) (a0_1 : Int) (a1_0 : Int) (a1_1 : Int) : Option (List (Int × Int)) := ((span_Empty.f a1_0 a1_1).bind fun b0 => (if b0 = true then none else ((span_some.f a0_0 (mni a0_1 a1_0)).bind fun b1 => ((span_some.f (mxi a0_0 a1_1) a0_1).bind fun b2 => (if (!((b1.1 == 0) && (b1.2 == 0))) = true then (if (!((b2.1 == 0) && (b2.2 == 0))) = true then some ((b1.1, b1.2) :: [(b2.1, b2.2)]) else some [(b1.1, b1.2)]) else (if (!((b2.1 == 0) && (b2.2 == 0))) = true then some [(b2.1, b2.2)] else some []))))))
def span_Minus.app : App := fun ps => (span_Minus.ra.de ps).bind fun x => (span_Minus.f x.1 x.2.1 x.2.2.1 x.2.2.2).map span_Minus.rr.en
theorem span_Minus.ap (a0_0 : Int) (a0_1 : Int) (a1_0 : Int) (a1_1 : Int) : span_Minus.app [.int a0_0, .int a0_1, .int a1_0, .int a1_1] = (span_Minus.f a0_0 a0_1 a1_0 a1_1).map span_Minus.rr.en := app_ap span_Minus.ra span_Minus.rr (fun x => span_Minus.f x.1 x.2.1 x.2.2.1 x.2.2.2) (a0_0, a0_1, a1_0, a1_1)
theorem span_Minus.is : FnIs Try.prog 16 (.init span_Minus.sg) span_Minus.t span_Minus.cf := ⟨Try.f16, span_Minus.body, 250, Try.func16, by kernel_rfl, rfl, rfl, by decide +kernel, by kernel_rfl⟩
theorem span_Minus.den (F : FnE) (K : Nat) (h22 : F 22 = span_Empty.app) (h43 : F 43 = span_some.app) (a0_0 : Int) (a0_1 : Int) (a1_0 : Int) (a1_1 : Int) : Sy.den F K span_Minus.t [] [.int a0_0, .int a0_1, .int a1_0, .int a1_1] = (span_Minus.f a0_0 a0_1 a1_0 a1_1).map span_Minus.rr.en := by
  unfold span_Minus.t span_Minus.f
  refine den_ask (ps := [.int a1_0, .int a1_1]) (rr := span_Empty.rr) (G := span_Empty.f a1_0 a1_1) (by rw [h22]; exact span_Empty.ap a1_0 a1_1) rfl rfl fun b0 => ?_
  show Sy.den F K _ _ [.int a0_0, .int a0_1, .int a1_0, .int a1_1, .bool b0] = _
  refine den_ite (b := b0) rfl ?_ ?_
  exact den_bad _ _ _ _ _
  refine den_ask (ps := [.int a0_0, .int (mni a0_1 a1_0)]) (rr := span_some.rr) (G := span_some.f a0_0 (mni a0_1 a1_0)) (by rw [h43]; exact span_some.ap a0_0 (mni a0_1 a1_0)) rfl rfl fun b1 => ?_
  show Sy.den F K _ _ [.int a0_0, .int a0_1, .int a1_0, .int a1_1, .bool b0, .int b1.1, .int b1.2] = _
  refine den_ask (ps := [.int (mxi a0_0 a1_1), .int a0_1]) (rr := span_some.rr) (G := span_some.f (mxi a0_0 a1_1) a0_1) (by rw [h43]; exact span_some.ap (mxi a0_0 a1_1) a0_1) rfl rfl fun b2 => ?_
  show Sy.den F K _ _ [.int a0_0, .int a0_1, .int a1_0, .int a1_1, .bool b0, .int b1.1, .int b1.2, .int b2.1, .int b2.2] = _
  refine den_ite (b := (!((b1.1 == 0) && (b1.2 == 0)))) rfl ?_ ?_
  refine den_ite (b := (!((b2.1 == 0) && (b2.2 == 0)))) rfl ?_ ?_
  refine den_fix (rows := List.map rw_ii.en ((b1.1, b1.2) :: [(b2.1, b2.2)])) (by simp only [pds, PC.pd, E.ev, B.ev, SE.ev, LE.rows, lensEv, kSl_eq, kPt_eq, ov_prop, List.getElem?_cons_zero, List.getElem?_cons_succ, List.length_map, Nat.add_zero, Nat.zero_add, Option.bind_some, Option.map_some, if_true, Subtype.eta, mxi, mni, List.map_append, List.map_cons, List.map_nil, List.cons_append, List.nil_append, List.append_nil, rw_ii_en]) ?_
  show Sy.den F K _ _ [.int a0_0, .int a0_1, .int a1_0, .int a1_1, .bool b0, .int b1.1, .int b1.2, .int b2.1, .int b2.2, .lst 2 (((b1.1, b1.2) :: [(b2.1, b2.2)]).map rw_ii.en)] = _
  exact den_ret (by simp only [pds, PC.pd, E.ev, B.ev, SE.ev, LE.rows, lensEv, kSl_eq, kPt_eq, ov_prop, List.getElem?_cons_zero, List.getElem?_cons_succ, List.length_map, Nat.add_zero, Nat.zero_add, Option.bind_some, Option.map_some, if_true, Subtype.eta, mxi, mni, List.map_append, List.map_cons, List.map_nil, List.cons_append, List.nil_append, List.append_nil, span_Minus.rr_en])
  refine den_fix (rows := List.map rw_ii.en [(b1.1, b1.2)]) (by simp only [pds, PC.pd, E.ev, B.ev, SE.ev, LE.rows, lensEv, kSl_eq, kPt_eq, ov_prop, List.getElem?_cons_zero, List.getElem?_cons_succ, List.length_map, Nat.add_zero, Nat.zero_add, Option.bind_some, Option.map_some, if_true, Subtype.eta, mxi, mni, List.map_append, List.map_cons, List.map_nil, List.cons_append, List.nil_append, List.append_nil, rw_ii_en]) ?_
  show Sy.den F K _ _ [.int a0_0, .int a0_1, .int a1_0, .int a1_1, .bool b0, .int b1.1, .int b1.2, .int b2.1, .int b2.2, .lst 2 ([(b1.1, b1.2)].map rw_ii.en)] = _
  exact den_ret (by simp only [pds, PC.pd, E.ev, B.ev, SE.ev, LE.rows, lensEv, kSl_eq, kPt_eq, ov_prop, List.getElem?_cons_zero, List.getElem?_cons_succ, List.length_map, Nat.add_zero, Nat.zero_add, Option.bind_some, Option.map_some, if_true, Subtype.eta, mxi, mni, List.map_append, List.map_cons, List.map_nil, List.cons_append, List.nil_append, List.append_nil, span_Minus.rr_en])
  refine den_ite (b := (!((b2.1 == 0) && (b2.2 == 0)))) rfl ?_ ?_
  refine den_fix (rows := List.map rw_ii.en [(b2.1, b2.2)]) (by simp only [pds, PC.pd, E.ev, B.ev, SE.ev, LE.rows, lensEv, kSl_eq, kPt_eq, ov_prop, List.getElem?_cons_zero, List.getElem?_cons_succ, List.length_map, Nat.add_zero, Nat.zero_add, Option.bind_some, Option.map_some, if_true, Subtype.eta, mxi, mni, List.map_append, List.map_cons, List.map_nil, List.cons_append, List.nil_append, List.append_nil, rw_ii_en]) ?_
  show Sy.den F K _ _ [.int a0_0, .int a0_1, .int a1_0, .int a1_1, .bool b0, .int b1.1, .int b1.2, .int b2.1, .int b2.2, .lst 2 ([(b2.1, b2.2)].map rw_ii.en)] = _
  exact den_ret (by simp only [pds, PC.pd, E.ev, B.ev, SE.ev, LE.rows, lensEv, kSl_eq, kPt_eq, ov_prop, List.getElem?_cons_zero, List.getElem?_cons_succ, List.length_map, Nat.add_zero, Nat.zero_add, Option.bind_some, Option.map_some, if_true, Subtype.eta, mxi, mni, List.map_append, List.map_cons, List.map_nil, List.cons_append, List.nil_append, List.append_nil, span_Minus.rr_en])
  exact den_ret (by simp only [pds, PC.pd, E.ev, B.ev, SE.ev, LE.rows, lensEv, kSl_eq, kPt_eq, ov_prop, List.getElem?_cons_zero, List.getElem?_cons_succ, List.length_map, Nat.add_zero, Nat.zero_add, Option.bind_some, Option.map_some, if_true, Subtype.eta, mxi, mni, List.map_append, List.map_cons, List.map_nil, List.cons_append, List.nil_append, List.append_nil, span_Minus.rr_en])
theorem span_Minus.ok (F : FnE) (K : Nat) (h22 : F 22 = span_Empty.app) (h43 : F 43 = span_some.app) (ps r : List PD) (h : span_Minus.app ps = some r) : Sy.den F K span_Minus.t [] ps = some r := by
  obtain ⟨a, rfl, h2⟩ := app_ok (ra := span_Minus.ra) (rr := span_Minus.rr) (f := fun x => span_Minus.f x.1 x.2.1 x.2.2.1 x.2.2.2) h
  rw [← h2]
  exact span_Minus.den F K h22 h43 (a.1) (a.2.1) (a.2.2.1) (a.2.2.2)
def l16 (K : Nat) : List (Nat × App) := (16, span_Minus.app) :: l43 K
theorem gd16 (K : Nat) : Sy.Good Try.prog fns (mkF (l16 K)) := good_cons (K := K) span_Minus.is rfl (by kernel_rfl) (by decide +kernel) envOk relOk relNp mix (gd43 K) (span_Minus.ok _ K rfl rfl)
/-! ### span_Has: function 21 -/
noncomputable def span_Has.body : Code := Try.f21.body.getD .skip
noncomputable def span_Has.sg : List S1 := [(.agg [.i, .i]), (.one .i)]
noncomputable def span_Has.sh : Sh := (.one (.one .b))
noncomputable def span_Has.cf : Cfg := ⟨env, Try.f21.ntmps, Try.f21.results.toList, some span_Has.sh, rel, [], []⟩
noncomputable def span_Has.t : Tree := (.ite (.le (.va 0) (.va 2)) (.ret [(.bo (.lt (.va 2) (.va 1)))]) (.ret [(.bo (.co false))]))
def span_Has.ra : Rw (Int × Int × Int) := (rwP rwI (rwP rwI rwI))
def span_Has.rr : Rw (Bool) := rwB
theorem span_Has.rr_en (r : Bool) : span_Has.rr.en r = [.bool r] := rfl
def span_Has.f (a0_0 : Int) (a0_1 : Int) (a1 : Int) : Option (Bool) := (if (decide (a0_0 ≤ a1)) = true then some (decide (a1 < a0_1)) else some false)
def span_Has.app : App := fun ps => (span_Has.ra.de ps).bind fun x => (span_Has.f x.1 x.2.1 x.2.2).map span_Has.rr.en
theorem span_Has.ap (a0_0 : Int) (a0_1 : Int) (a1 : Int) : span_Has.app [.int a0_0, .int a0_1, .int a1] = (span_Has.f a0_0 a0_1 a1).map span_Has.rr.en := app_ap span_Has.ra span_Has.rr (fun x => span_Has.f x.1 x.2.1 x.2.2) (a0_0, a0_1, a1)
theorem span_Has.is : FnIs Try.prog 21 (.init span_Has.sg) span_Has.t span_Has.cf := ⟨Try.f21, span_Has.body, 6000, Try.func21, by kernel_rfl, rfl, rfl, by decide +kernel, by kernel_rfl⟩
theorem span_Has.den (F : FnE) (K : Nat) (a0_0 : Int) (a0_1 : Int) (a1 : Int) : Sy.den F K span_Has.t [] [.int a0_0, .int a0_1, .int a1] = (span_Has.f a0_0 a0_1 a1).map span_Has.rr.en := by
  unfold span_Has.t span_Has.f
  refine den_ite (b := (decide (a0_0 ≤ a1))) rfl ?_ ?_
  exact den_ret rfl
  exact den_ret rfl
theorem span_Has.ok (F : FnE) (K : Nat) (ps r : List PD) (h : span_Has.app ps = some r) : Sy.den F K span_Has.t [] ps = some r := by
  obtain ⟨a, rfl, h2⟩ := app_ok (ra := span_Has.ra) (rr := span_Has.rr) (f := fun x => span_Has.f x.1 x.2.1 x.2.2) h
  rw [← h2]
  exact span_Has.den F K (a.1) (a.2.1) (a.2.2)
def l21 (K : Nat) : List (Nat × App) := (21, span_Has.app) :: l16 K
theorem gd21 (K : Nat) : Sy.Good Try.prog fns (mkF (l21 K)) := good_cons (K := K) span_Has.is rfl (by kernel_rfl) (by decide +kernel) envOk relOk relNp mix (gd16 K) (span_Has.ok _ K)
/-! ### gatherumlaw03_alive: function 12 -/
noncomputable def gatherumlaw03_alive.body : Code := Try.f12.body.getD .skip
noncomputable def gatherumlaw03_alive.sg : List S1 := []
noncomputable def gatherumlaw03_alive.sh : Sh := (.one (.one .b))
noncomputable def gatherumlaw03_alive.cf : Cfg := ⟨env, Try.f12.ntmps, Try.f12.results.toList, some gatherumlaw03_alive.sh, rel, [], []⟩
noncomputable def gatherumlaw03_alive.t : Tree := (.ask 16 [(.ex (.nu 0)), (.ex (.nu 5)), (.ex (.nu 2)), (.ex (.nu 3))] [(.l 23 2)] (.ite (.eq (.lens [0] 0) (.nu 2)) (.ite (.lt (.nu 0) (.lens [0] 0)) (.get 0 (.nu 0) [.i, .i] (.ite (.and (.eq (.va 1) (.nu 0)) (.eq (.va 2) (.nu 2))) (.ite (.lt (.nu 1) (.lens [0] 0)) (.get 0 (.nu 1) [.i, .i] (.ite (.and (.eq (.va 3) (.nu 3)) (.eq (.va 4) (.nu 5))) (.ask 21 [(.ex (.va 3)), (.ex (.va 4)), (.ex (.nu 4))] [.b] (.ret [(.bo (.va 5))])) (.ret [(.bo (.co false))]))) .bad) (.ret [(.bo (.co false))]))) .bad) (.ret [(.bo (.co false))])))
def gatherumlaw03_alive.ra : Rw (Unit) := rwU
def gatherumlaw03_alive.rr : Rw (Bool) := rwB
theorem gatherumlaw03_alive.rr_en (r : Bool) : gatherumlaw03_alive.rr.en r = [.bool r] := rfl
def gatherumlaw03_alive.f : Option (Bool) := ((span_Minus.f 0 5 2 3).bind fun b0 => (if (((b0.length : Nat) : Int) == 2) = true then (if (decide (0 < ((b0.length : Nat) : Int))) = true then ((b0[(0 : Int).toNat]?).bind fun b1 => (if ((b1.1 == 0) && (b1.2 == 2)) = true then (if (decide (1 < ((b0.length : Nat) : Int))) = true then ((b0[(1 : Int).toNat]?).bind fun b2 => (if ((b2.1 == 3) && (b2.2 == 5)) = true then ((span_Has.f b2.1 b2.2 4).bind fun b3 => some b3) else some false)) else none) else some false)) else none) else some false))
def gatherumlaw03_alive.app : App := fun ps => (gatherumlaw03_alive.ra.de ps).bind fun x => (gatherumlaw03_alive.f).map gatherumlaw03_alive.rr.en
theorem gatherumlaw03_alive.ap : gatherumlaw03_alive.app [] = (gatherumlaw03_alive.f).map gatherumlaw03_alive.rr.en := app_ap gatherumlaw03_alive.ra gatherumlaw03_alive.rr (fun x => gatherumlaw03_alive.f) ()
theorem gatherumlaw03_alive.is : FnIs Try.prog 12 (.init gatherumlaw03_alive.sg) gatherumlaw03_alive.t gatherumlaw03_alive.cf := ⟨Try.f12, gatherumlaw03_alive.body, 6000, Try.func12, by kernel_rfl, rfl, rfl, by decide +kernel, by kernel_rfl⟩
theorem gatherumlaw03_alive.den (F : FnE) (K : Nat) (h16 : F 16 = span_Minus.app) (h21 : F 21 = span_Has.app) : Sy.den F K gatherumlaw03_alive.t [] [] = (gatherumlaw03_alive.f).map gatherumlaw03_alive.rr.en := by
  unfold gatherumlaw03_alive.t gatherumlaw03_alive.f
  refine den_ask (ps := [.int 0, .int 5, .int 2, .int 3]) (rr := span_Minus.rr) (G := span_Minus.f 0 5 2 3) (by rw [h16]; exact span_Minus.ap 0 5 2 3) rfl rfl fun b0 => ?_
  show Sy.den F K _ _ [.lst 2 (b0.map rw_ii.en)] = _
  refine den_ite (b := (((b0.length : Nat) : Int) == 2)) (by simp only [pds, PC.pd, E.ev, B.ev, SE.ev, LE.rows, lensEv, kSl_eq, kPt_eq, ov_prop, List.getElem?_cons_zero, List.getElem?_cons_succ, List.length_map, Nat.add_zero, Nat.zero_add, Option.bind_some, Option.map_some, if_true, Subtype.eta, mxi, mni, List.map_append, List.map_cons, List.map_nil, List.cons_append, List.nil_append, List.append_nil]) ?_ ?_
  refine den_ite (b := (decide (0 < ((b0.length : Nat) : Int)))) (by simp only [pds, PC.pd, E.ev, B.ev, SE.ev, LE.rows, lensEv, kSl_eq, kPt_eq, ov_prop, List.getElem?_cons_zero, List.getElem?_cons_succ, List.length_map, Nat.add_zero, Nat.zero_add, Option.bind_some, Option.map_some, if_true, Subtype.eta, mxi, mni, List.map_append, List.map_cons, List.map_nil, List.cons_append, List.nil_append, List.append_nil]) ?_ ?_
  refine den_get (L := b0) (rw := rw_ii) rfl rfl rfl fun b1 => ?_
  show Sy.den F K _ _ [.lst 2 (b0.map rw_ii.en), .int b1.1, .int b1.2] = _
  refine den_ite (b := ((b1.1 == 0) && (b1.2 == 2))) rfl ?_ ?_
  refine den_ite (b := (decide (1 < ((b0.length : Nat) : Int)))) (by simp only [pds, PC.pd, E.ev, B.ev, SE.ev, LE.rows, lensEv, kSl_eq, kPt_eq, ov_prop, List.getElem?_cons_zero, List.getElem?_cons_succ, List.length_map, Nat.add_zero, Nat.zero_add, Option.bind_some, Option.map_some, if_true, Subtype.eta, mxi, mni, List.map_append, List.map_cons, List.map_nil, List.cons_append, List.nil_append, List.append_nil]) ?_ ?_
  refine den_get (L := b0) (rw := rw_ii) rfl rfl rfl fun b2 => ?_
  show Sy.den F K _ _ [.lst 2 (b0.map rw_ii.en), .int b1.1, .int b1.2, .int b2.1, .int b2.2] = _
  refine den_ite (b := ((b2.1 == 3) && (b2.2 == 5))) rfl ?_ ?_
  refine den_ask (ps := [.int b2.1, .int b2.2, .int 4]) (rr := span_Has.rr) (G := span_Has.f b2.1 b2.2 4) (by rw [h21]; exact span_Has.ap b2.1 b2.2 4) rfl rfl fun b3 => ?_
  show Sy.den F K _ _ [.lst 2 (b0.map rw_ii.en), .int b1.1, .int b1.2, .int b2.1, .int b2.2, .bool b3] = _
  exact den_ret rfl
  exact den_ret rfl
  exact den_bad _ _ _ _ _
  exact den_ret rfl
  exact den_bad _ _ _ _ _
  exact den_ret rfl
theorem gatherumlaw03_alive.ok (F : FnE) (K : Nat) (h16 : F 16 = span_Minus.app) (h21 : F 21 = span_Has.app) (ps r : List PD) (h : gatherumlaw03_alive.app ps = some r) : Sy.den F K gatherumlaw03_alive.t [] ps = some r := by
  obtain ⟨a, rfl, h2⟩ := app_ok (ra := gatherumlaw03_alive.ra) (rr := gatherumlaw03_alive.rr) (f := fun x => gatherumlaw03_alive.f) h
  rw [← h2]
  exact gatherumlaw03_alive.den F K h16 h21
def l12 (K : Nat) : List (Nat × App) := (12, gatherumlaw03_alive.app) :: l21 K
theorem gd12 (K : Nat) : Sy.Good Try.prog fns (mkF (l12 K)) := good_cons (K := K) gatherumlaw03_alive.is rfl (by kernel_rfl) (by decide +kernel) envOk relOk relNp mix (gd21 K) (gatherumlaw03_alive.ok _ K rfl rfl)
/-! ### gatherumlaw03_empty: function 14 -/
noncomputable def gatherumlaw03_empty.body : Code := Try.f14.body.getD .skip
noncomputable def gatherumlaw03_empty.sg : List S1 := [(.agg [.i, .i])]
noncomputable def gatherumlaw03_empty.sh : Sh := (.one (.one .b))
noncomputable def gatherumlaw03_empty.cf : Cfg := ⟨env, Try.f14.ntmps, Try.f14.results.toList, some gatherumlaw03_empty.sh, rel, [], []⟩
noncomputable def gatherumlaw03_empty.t : Tree := (.ret [(.bo (.le (.va 1) (.va 0)))])
def gatherumlaw03_empty.ra : Rw (Int × Int) := (rwP rwI rwI)
def gatherumlaw03_empty.rr : Rw (Bool) := rwB
theorem gatherumlaw03_empty.rr_en (r : Bool) : gatherumlaw03_empty.rr.en r = [.bool r] := rfl
def gatherumlaw03_empty.f (a0_0 : Int) (a0_1 : Int) : Option (Bool) := some (decide (a0_1 ≤ a0_0))
def gatherumlaw03_empty.app : App := fun ps => (gatherumlaw03_empty.ra.de ps).bind fun x => (gatherumlaw03_empty.f x.1 x.2).map gatherumlaw03_empty.rr.en
theorem gatherumlaw03_empty.ap (a0_0 : Int) (a0_1 : Int) : gatherumlaw03_empty.app [.int a0_0, .int a0_1] = (gatherumlaw03_empty.f a0_0 a0_1).map gatherumlaw03_empty.rr.en := app_ap gatherumlaw03_empty.ra gatherumlaw03_empty.rr (fun x => gatherumlaw03_empty.f x.1 x.2) (a0_0, a0_1)
theorem gatherumlaw03_empty.is : FnIs Try.prog 14 (.init gatherumlaw03_empty.sg) gatherumlaw03_empty.t gatherumlaw03_empty.cf := ⟨Try.f14, gatherumlaw03_empty.body, 6000, Try.func14, by kernel_rfl, rfl, rfl, by decide +kernel, by kernel_rfl⟩
theorem gatherumlaw03_empty.den (F : FnE) (K : Nat) (a0_0 : Int) (a0_1 : Int) : Sy.den F K gatherumlaw03_empty.t [] [.int a0_0, .int a0_1] = (gatherumlaw03_empty.f a0_0 a0_1).map gatherumlaw03_empty.rr.en := by
  unfold gatherumlaw03_empty.t gatherumlaw03_empty.f
  exact den_ret rfl
theorem gatherumlaw03_empty.ok (F : FnE) (K : Nat) (ps r : List PD) (h : gatherumlaw03_empty.app ps = some r) : Sy.den F K gatherumlaw03_empty.t [] ps = some r := by
  obtain ⟨a, rfl, h2⟩ := app_ok (ra := gatherumlaw03_empty.ra) (rr := gatherumlaw03_empty.rr) (f := fun x => gatherumlaw03_empty.f x.1 x.2) h
  rw [← h2]
  exact gatherumlaw03_empty.den F K (a.1) (a.2)
def l14 (K : Nat) : List (Nat × App) := (14, gatherumlaw03_empty.app) :: l12 K
theorem gd14 (K : Nat) : Sy.Good Try.prog fns (mkF (l14 K)) := good_cons (K := K) gatherumlaw03_empty.is rfl (by kernel_rfl) (by decide +kernel) envOk relOk relNp mix (gd12 K) (gatherumlaw03_empty.ok _ K)
/-! ### gatherumlaw03_has: function 17 -/
noncomputable def gatherumlaw03_has.body : Code := Try.f17.body.getD .skip
noncomputable def gatherumlaw03_has.sg : List S1 := [(.agg [.i, .i]), (.one .i)]
noncomputable def gatherumlaw03_has.sh : Sh := (.one (.one .b))
noncomputable def gatherumlaw03_has.cf : Cfg := ⟨env, Try.f17.ntmps, Try.f17.results.toList, some gatherumlaw03_has.sh, rel, [], []⟩
noncomputable def gatherumlaw03_has.t : Tree := (.ite (.le (.va 0) (.va 2)) (.ret [(.bo (.lt (.va 2) (.va 1)))]) (.ret [(.bo (.co false))]))
def gatherumlaw03_has.ra : Rw (Int × Int × Int) := (rwP rwI (rwP rwI rwI))
def gatherumlaw03_has.rr : Rw (Bool) := rwB
theorem gatherumlaw03_has.rr_en (r : Bool) : gatherumlaw03_has.rr.en r = [.bool r] := rfl
def gatherumlaw03_has.f (a0_0 : Int) (a0_1 : Int) (a1 : Int) : Option (Bool) := (if (decide (a0_0 ≤ a1)) = true then some (decide (a1 < a0_1)) else some false)
def gatherumlaw03_has.app : App := fun ps => (gatherumlaw03_has.ra.de ps).bind fun x => (gatherumlaw03_has.f x.1 x.2.1 x.2.2).map gatherumlaw03_has.rr.en
theorem gatherumlaw03_has.ap (a0_0 : Int) (a0_1 : Int) (a1 : Int) : gatherumlaw03_has.app [.int a0_0, .int a0_1, .int a1] = (gatherumlaw03_has.f a0_0 a0_1 a1).map gatherumlaw03_has.rr.en := app_ap gatherumlaw03_has.ra gatherumlaw03_has.rr (fun x => gatherumlaw03_has.f x.1 x.2.1 x.2.2) (a0_0, a0_1, a1)
theorem gatherumlaw03_has.is : FnIs Try.prog 17 (.init gatherumlaw03_has.sg) gatherumlaw03_has.t gatherumlaw03_has.cf := ⟨Try.f17, gatherumlaw03_has.body, 6000, Try.func17, by kernel_rfl, rfl, rfl, by decide +kernel, by kernel_rfl⟩
theorem gatherumlaw03_has.den (F : FnE) (K : Nat) (a0_0 : Int) (a0_1 : Int) (a1 : Int) : Sy.den F K gatherumlaw03_has.t [] [.int a0_0, .int a0_1, .int a1] = (gatherumlaw03_has.f a0_0 a0_1 a1).map gatherumlaw03_has.rr.en := by
  unfold gatherumlaw03_has.t gatherumlaw03_has.f
  refine den_ite (b := (decide (a0_0 ≤ a1))) rfl ?_ ?_
  exact den_ret rfl
  exact den_ret rfl
theorem gatherumlaw03_has.ok (F : FnE) (K : Nat) (ps r : List PD) (h : gatherumlaw03_has.app ps = some r) : Sy.den F K gatherumlaw03_has.t [] ps = some r := by
  obtain ⟨a, rfl, h2⟩ := app_ok (ra := gatherumlaw03_has.ra) (rr := gatherumlaw03_has.rr) (f := fun x => gatherumlaw03_has.f x.1 x.2.1 x.2.2) h
  rw [← h2]
  exact gatherumlaw03_has.den F K (a.1) (a.2.1) (a.2.2)
def l17 (K : Nat) : List (Nat × App) := (17, gatherumlaw03_has.app) :: l14 K
theorem gd17 (K : Nat) : Sy.Good Try.prog fns (mkF (l17 K)) := good_cons (K := K) gatherumlaw03_has.is rfl (by kernel_rfl) (by decide +kernel) envOk relOk relNp mix (gd14 K) (gatherumlaw03_has.ok _ K)
/-! ### span_Within: function 18 -/
noncomputable def span_Within.body : Code := Try.f18.body.getD .skip
noncomputable def span_Within.sg : List S1 := [(.agg [.i, .i]), (.agg [.i, .i])]
noncomputable def span_Within.sh : Sh := (.one (.one .b))
noncomputable def span_Within.cf : Cfg := ⟨env, Try.f18.ntmps, Try.f18.results.toList, some span_Within.sh, rel, [], []⟩
noncomputable def span_Within.t : Tree := (.ask 22 [(.ex (.va 0)), (.ex (.va 1))] [.b] (.ite (.va 4) (.ret [(.bo (.co true))]) (.ite (.le (.va 2) (.va 0)) (.ret [(.bo (.le (.va 1) (.va 3)))]) (.ret [(.bo (.co false))]))))
def span_Within.ra : Rw (Int × Int × Int × Int) := (rwP rwI (rwP rwI (rwP rwI rwI)))
def span_Within.rr : Rw (Bool) := rwB
theorem span_Within.rr_en (r : Bool) : span_Within.rr.en r = [.bool r] := rfl
def span_Within.f (a0_0 : Int) (a0_1 : Int) (a1_0 : Int) (a1_1 : Int) : Option (Bool) := ((span_Empty.f a0_0 a0_1).bind fun b0 => (if b0 = true then some true else (if (decide (a1_0 ≤ a0_0)) = true then some (decide (a0_1 ≤ a1_1)) else some false)))
def span_Within.app : App := fun ps => (span_Within.ra.de ps).bind fun x => (span_Within.f x.1 x.2.1 x.2.2.1 x.2.2.2).map span_Within.rr.en
theorem span_Within.ap (a0_0 : Int) (a0_1 : Int) (a1_0 : Int) (a1_1 : Int) : span_Within.app [.int a0_0, .int a0_1, .int a1_0, .int a1_1] = (span_Within.f a0_0 a0_1 a1_0 a1_1).map span_Within.rr.en := app_ap span_Within.ra span_Within.rr (fun x => span_Within.f x.1 x.2.1 x.2.2.1 x.2.2.2) (a0_0, a0_1, a1_0, a1_1)
theorem span_Within.is : FnIs Try.prog 18 (.init span_Within.sg) span_Within.t span_Within.cf := ⟨Try.f18, span_Within.body, 6000, Try.func18, by kernel_rfl, rfl, rfl, by decide +kernel, by kernel_rfl⟩
theorem span_Within.den (F : FnE) (K : Nat) (h22 : F 22 = span_Empty.app) (a0_0 : Int) (a0_1 : Int) (a1_0 : Int) (a1_1 : Int) : Sy.den F K span_Within.t [] [.int a0_0, .int a0_1, .int a1_0, .int a1_1] = (span_Within.f a0_0 a0_1 a1_0 a1_1).map span_Within.rr.en := by
  unfold span_Within.t span_Within.f
  refine den_ask (ps := [.int a0_0, .int a0_1]) (rr := span_Empty.rr) (G := span_Empty.f a0_0 a0_1) (by rw [h22]; exact span_Empty.ap a0_0 a0_1) rfl rfl fun b0 => ?_
  show Sy.den F K _ _ [.int a0_0, .int a0_1, .int a1_0, .int a1_1, .bool b0] = _
  refine den_ite (b := b0) rfl ?_ ?_
  exact den_ret rfl
  refine den_ite (b := (decide (a1_0 ≤ a0_0))) rfl ?_ ?_
  exact den_ret rfl
  exact den_ret rfl
theorem span_Within.ok (F : FnE) (K : Nat) (h22 : F 22 = span_Empty.app) (ps r : List PD) (h : span_Within.app ps = some r) : Sy.den F K span_Within.t [] ps = some r := by
  obtain ⟨a, rfl, h2⟩ := app_ok (ra := span_Within.ra) (rr := span_Within.rr) (f := fun x => span_Within.f x.1 x.2.1 x.2.2.1 x.2.2.2) h
  rw [← h2]
  exact span_Within.den F K h22 (a.1) (a.2.1) (a.2.2.1) (a.2.2.2)
def l18 (K : Nat) : List (Nat × App) := (18, span_Within.app) :: l17 K
theorem gd18 (K : Nat) : Sy.Good Try.prog fns (mkF (l18 K)) := good_cons (K := K) span_Within.is rfl (by kernel_rfl) (by decide +kernel) envOk relOk relNp mix (gd17 K) (span_Within.ok _ K rfl)
/-! ### span_Meet: function 19 -/
noncomputable def span_Meet.body : Code := Try.f19.body.getD .skip
noncomputable def span_Meet.sg : List S1 := [(.agg [.i, .i]), (.agg [.i, .i])]
noncomputable def span_Meet.sh : Sh := (.one (.agg [.i, .i]))
noncomputable def span_Meet.cf : Cfg := ⟨env, Try.f19.ntmps, Try.f19.results.toList, some span_Meet.sh, rel, [], []⟩
noncomputable def span_Meet.t : Tree := (.ask 43 [(.ex (.mx (.va 0) (.va 2))), (.ex (.mn (.va 1) (.va 3)))] [.i, .i] (.ret [(.ex (.va 4)), (.ex (.va 5))]))
def span_Meet.ra : Rw (Int × Int × Int × Int) := (rwP rwI (rwP rwI (rwP rwI rwI)))
def span_Meet.rr : Rw (Int × Int) := (rwP rwI rwI)
theorem span_Meet.rr_en (r : Int × Int) : span_Meet.rr.en r = [.int r.1, .int r.2] := rfl
def span_Meet.f (a0_0 : Int) (a0_1 : Int) (a1_0 : Int) (a1_1 : Int) : Option (Int × Int) := ((span_some.f (mxi a0_0 a1_0) (mni a0_1 a1_1)).bind fun b0 => some (b0.1, b0.2))
def span_Meet.app : App := fun ps => (span_Meet.ra.de ps).bind fun x => (span_Meet.f x.1 x.2.1 x.2.2.1 x.2.2.2).map span_Meet.rr.en
theorem span_Meet.ap (a0_0 : Int) (a0_1 : Int) (a1_0 : Int) (a1_1 : Int) : span_Meet.app [.int a0_0, .int a0_1, .int a1_0, .int a1_1] = (span_Meet.f a0_0 a0_1 a1_0 a1_1).map span_Meet.rr.en := app_ap span_Meet.ra span_Meet.rr (fun x => span_Meet.f x.1 x.2.1 x.2.2.1 x.2.2.2) (a0_0, a0_1, a1_0, a1_1)
theorem span_Meet.is : FnIs Try.prog 19 (.init span_Meet.sg) span_Meet.t span_Meet.cf := ⟨Try.f19, span_Meet.body, 6000, Try.func19, by kernel_rfl, rfl, rfl, by decide +kernel, by kernel_rfl⟩
theorem span_Meet.den (F : FnE) (K : Nat) (h43 : F 43 = span_some.app) (a0_0 : Int) (a0_1 : Int) (a1_0 : Int) (a1_1 : Int) : Sy.den F K span_Meet.t [] [.int a0_0, .int a0_1, .int a1_0, .int a1_1] = (span_Meet.f a0_0 a0_1 a1_0 a1_1).map span_Meet.rr.en := by
  unfold span_Meet.t span_Meet.f
  refine den_ask (ps := [.int (mxi a0_0 a1_0), .int (mni a0_1 a1_1)]) (rr := span_some.rr) (G := span_some.f (mxi a0_0 a1_0) (mni a0_1 a1_1)) (by rw [h43]; exact span_some.ap (mxi a0_0 a1_0) (mni a0_1 a1_1)) rfl rfl fun b0 => ?_
  show Sy.den F K _ _ [.int a0_0, .int a0_1, .int a1_0, .int a1_1, .int b0.1, .int b0.2] = _
  exact den_ret rfl
theorem span_Meet.ok (F : FnE) (K : Nat) (h43 : F 43 = span_some.app) (ps r : List PD) (h : span_Meet.app ps = some r) : Sy.den F K span_Meet.t [] ps = some r := by
  obtain ⟨a, rfl, h2⟩ := app_ok (ra := span_Meet.ra) (rr := span_Meet.rr) (f := fun x => span_Meet.f x.1 x.2.1 x.2.2.1 x.2.2.2) h
  rw [← h2]
  exact span_Meet.den F K h43 (a.1) (a.2.1) (a.2.2.1) (a.2.2.2)
def l19 (K : Nat) : List (Nat × App) := (19, span_Meet.app) :: l18 K
theorem gd19 (K : Nat) : Sy.Good Try.prog fns (mkF (l19 K)) := good_cons (K := K) span_Meet.is rfl (by kernel_rfl) (by decide +kernel) envOk relOk relNp mix (gd18 K) (span_Meet.ok _ K rfl)
/-! ### span_Hull: function 20 -/
noncomputable def span_Hull.body : Code := Try.f20.body.getD .skip
noncomputable def span_Hull.sg : List S1 := [(.agg [.i, .i]), (.agg [.i, .i])]
noncomputable def span_Hull.sh : Sh := (.one (.agg [.i, .i]))
noncomputable def span_Hull.cf : Cfg := ⟨env, Try.f20.ntmps, Try.f20.results.toList, some span_Hull.sh, rel, [], []⟩
noncomputable def span_Hull.t : Tree := (.ask 22 [(.ex (.va 0)), (.ex (.va 1))] [.b] (.ite (.va 4) (.ask 43 [(.ex (.va 2)), (.ex (.va 3))] [.i, .i] (.ret [(.ex (.va 5)), (.ex (.va 6))])) (.ask 22 [(.ex (.va 2)), (.ex (.va 3))] [.b] (.ite (.va 5) (.ret [(.ex (.va 0)), (.ex (.va 1))]) (.ret [(.ex (.mn (.va 0) (.va 2))), (.ex (.mx (.va 1) (.va 3)))])))))
def span_Hull.ra : Rw (Int × Int × Int × Int) := (rwP rwI (rwP rwI (rwP rwI rwI)))
def span_Hull.rr : Rw (Int × Int) := (rwP rwI rwI)
theorem span_Hull.rr_en (r : Int × Int) : span_Hull.rr.en r = [.int r.1, .int r.2] := rfl
def span_Hull.f (a0_0 : Int) (a0_1 : Int) (a1_0 : Int) (a1_1 : Int) : Option (Int × Int) := ((span_Empty.f a0_0 a0_1).bind fun b0 => (if b0 = true then ((span_some.f a1_0 a1_1).bind fun b1 => some (b1.1, b1.2)) else ((span_Empty.f a1_0 a1_1).bind fun b1 => (if b1 = true then some (a0_0, a0_1) else some ((mni a0_0 a1_0), (mxi a0_1 a1_1))))))
def span_Hull.app : App := fun ps => (span_Hull.ra.de ps).bind fun x => (span_Hull.f x.1 x.2.1 x.2.2.1 x.2.2.2).map span_Hull.rr.en
theorem span_Hull.ap (a0_0 : Int) (a0_1 : Int) (a1_0 : Int) (a1_1 : Int) : span_Hull.app [.int a0_0, .int a0_1, .int a1_0, .int a1_1] = (span_Hull.f a0_0 a0_1 a1_0 a1_1).map span_Hull.rr.en := app_ap span_Hull.ra span_Hull.rr (fun x => span_Hull.f x.1 x.2.1 x.2.2.1 x.2.2.2) (a0_0, a0_1, a1_0, a1_1)
theorem span_Hull.is : FnIs Try.prog 20 (.init span_Hull.sg) span_Hull.t span_Hull.cf := ⟨Try.f20, span_Hull.body, 6000, Try.func20, by kernel_rfl, rfl, rfl, by decide +kernel, by kernel_rfl⟩
theorem span_Hull.den (F : FnE) (K : Nat) (h22 : F 22 = span_Empty.app) (h43 : F 43 = span_some.app) (a0_0 : Int) (a0_1 : Int) (a1_0 : Int) (a1_1 : Int) : Sy.den F K span_Hull.t [] [.int a0_0, .int a0_1, .int a1_0, .int a1_1] = (span_Hull.f a0_0 a0_1 a1_0 a1_1).map span_Hull.rr.en := by
  unfold span_Hull.t span_Hull.f
  refine den_ask (ps := [.int a0_0, .int a0_1]) (rr := span_Empty.rr) (G := span_Empty.f a0_0 a0_1) (by rw [h22]; exact span_Empty.ap a0_0 a0_1) rfl rfl fun b0 => ?_
  show Sy.den F K _ _ [.int a0_0, .int a0_1, .int a1_0, .int a1_1, .bool b0] = _
  refine den_ite (b := b0) rfl ?_ ?_
  refine den_ask (ps := [.int a1_0, .int a1_1]) (rr := span_some.rr) (G := span_some.f a1_0 a1_1) (by rw [h43]; exact span_some.ap a1_0 a1_1) rfl rfl fun b1 => ?_
  show Sy.den F K _ _ [.int a0_0, .int a0_1, .int a1_0, .int a1_1, .bool b0, .int b1.1, .int b1.2] = _
  exact den_ret rfl
  refine den_ask (ps := [.int a1_0, .int a1_1]) (rr := span_Empty.rr) (G := span_Empty.f a1_0 a1_1) (by rw [h22]; exact span_Empty.ap a1_0 a1_1) rfl rfl fun b1 => ?_
  show Sy.den F K _ _ [.int a0_0, .int a0_1, .int a1_0, .int a1_1, .bool b0, .bool b1] = _
  refine den_ite (b := b1) rfl ?_ ?_
  exact den_ret rfl
  exact den_ret rfl
theorem span_Hull.ok (F : FnE) (K : Nat) (h22 : F 22 = span_Empty.app) (h43 : F 43 = span_some.app) (ps r : List PD) (h : span_Hull.app ps = some r) : Sy.den F K span_Hull.t [] ps = some r := by
  obtain ⟨a, rfl, h2⟩ := app_ok (ra := span_Hull.ra) (rr := span_Hull.rr) (f := fun x => span_Hull.f x.1 x.2.1 x.2.2.1 x.2.2.2) h
  rw [← h2]
  exact span_Hull.den F K h22 h43 (a.1) (a.2.1) (a.2.2.1) (a.2.2.2)
def l20 (K : Nat) : List (Nat × App) := (20, span_Hull.app) :: l19 K
theorem gd20 (K : Nat) : Sy.Good Try.prog fns (mkF (l20 K)) := good_cons (K := K) span_Hull.is rfl (by kernel_rfl) (by decide +kernel) envOk relOk relNp mix (gd19 K) (span_Hull.ok _ K rfl rfl)
/-! ### span_Apart: function 23 -/
noncomputable def span_Apart.body : Code := Try.f23.body.getD .skip
noncomputable def span_Apart.sg : List S1 := [(.agg [.i, .i]), (.agg [.i, .i])]
noncomputable def span_Apart.sh : Sh := (.one (.one .b))
noncomputable def span_Apart.cf : Cfg := ⟨env, Try.f23.ntmps, Try.f23.results.toList, some span_Apart.sh, rel, [], []⟩
noncomputable def span_Apart.t : Tree := (.ask 19 [(.ex (.va 0)), (.ex (.va 1)), (.ex (.va 2)), (.ex (.va 3))] [.i, .i] (.ask 22 [(.ex (.va 4)), (.ex (.va 5))] [.b] (.ret [(.bo (.va 6))])))
def span_Apart.ra : Rw (Int × Int × Int × Int) := (rwP rwI (rwP rwI (rwP rwI rwI)))
def span_Apart.rr : Rw (Bool) := rwB
theorem span_Apart.rr_en (r : Bool) : span_Apart.rr.en r = [.bool r] := rfl
def span_Apart.f (a0_0 : Int) (a0_1 : Int) (a1_0 : Int) (a1_1 : Int) : Option (Bool) := ((span_Meet.f a0_0 a0_1 a1_0 a1_1).bind fun b0 => ((span_Empty.f b0.1 b0.2).bind fun b1 => some b1))
def span_Apart.app : App := fun ps => (span_Apart.ra.de ps).bind fun x => (span_Apart.f x.1 x.2.1 x.2.2.1 x.2.2.2).map span_Apart.rr.en
theorem span_Apart.ap (a0_0 : Int) (a0_1 : Int) (a1_0 : Int) (a1_1 : Int) : span_Apart.app [.int a0_0, .int a0_1, .int a1_0, .int a1_1] = (span_Apart.f a0_0 a0_1 a1_0 a1_1).map span_Apart.rr.en := app_ap span_Apart.ra span_Apart.rr (fun x => span_Apart.f x.1 x.2.1 x.2.2.1 x.2.2.2) (a0_0, a0_1, a1_0, a1_1)
theorem span_Apart.is : FnIs Try.prog 23 (.init span_Apart.sg) span_Apart.t span_Apart.cf := ⟨Try.f23, span_Apart.body, 6000, Try.func23, by kernel_rfl, rfl, rfl, by decide +kernel, by kernel_rfl⟩
theorem span_Apart.den (F : FnE) (K : Nat) (h19 : F 19 = span_Meet.app) (h22 : F 22 = span_Empty.app) (a0_0 : Int) (a0_1 : Int) (a1_0 : Int) (a1_1 : Int) : Sy.den F K span_Apart.t [] [.int a0_0, .int a0_1, .int a1_0, .int a1_1] = (span_Apart.f a0_0 a0_1 a1_0 a1_1).map span_Apart.rr.en := by
  unfold span_Apart.t span_Apart.f
  refine den_ask (ps := [.int a0_0, .int a0_1, .int a1_0, .int a1_1]) (rr := span_Meet.rr) (G := span_Meet.f a0_0 a0_1 a1_0 a1_1) (by rw [h19]; exact span_Meet.ap a0_0 a0_1 a1_0 a1_1) rfl rfl fun b0 => ?_
  show Sy.den F K _ _ [.int a0_0, .int a0_1, .int a1_0, .int a1_1, .int b0.1, .int b0.2] = _
  refine den_ask (ps := [.int b0.1, .int b0.2]) (rr := span_Empty.rr) (G := span_Empty.f b0.1 b0.2) (by rw [h22]; exact span_Empty.ap b0.1 b0.2) rfl rfl fun b1 => ?_
  show Sy.den F K _ _ [.int a0_0, .int a0_1, .int a1_0, .int a1_1, .int b0.1, .int b0.2, .bool b1] = _
  exact den_ret rfl
theorem span_Apart.ok (F : FnE) (K : Nat) (h19 : F 19 = span_Meet.app) (h22 : F 22 = span_Empty.app) (ps r : List PD) (h : span_Apart.app ps = some r) : Sy.den F K span_Apart.t [] ps = some r := by
  obtain ⟨a, rfl, h2⟩ := app_ok (ra := span_Apart.ra) (rr := span_Apart.rr) (f := fun x => span_Apart.f x.1 x.2.1 x.2.2.1 x.2.2.2) h
  rw [← h2]
  exact span_Apart.den F K h19 h22 (a.1) (a.2.1) (a.2.2.1) (a.2.2.2)
def l23 (K : Nat) : List (Nat × App) := (23, span_Apart.app) :: l20 K
theorem gd23 (K : Nat) : Sy.Good Try.prog fns (mkF (l23 K)) := good_cons (K := K) span_Apart.is rfl (by kernel_rfl) (by decide +kernel) envOk relOk relNp mix (gd20 K) (span_Apart.ok _ K rfl rfl)
/-! ### gatherumlaw03_SpanTells: function 6 -/
noncomputable def gatherumlaw03_SpanTells.body : Code := Try.f6.body.getD .skip
noncomputable def gatherumlaw03_SpanTells.sg : List S1 := [(.agg [.i, .i]), (.agg [.i, .i]), (.one .i)]
noncomputable def gatherumlaw03_SpanTells.sh : Sh := (.one (.one .b))
noncomputable def gatherumlaw03_SpanTells.cf : Cfg := ⟨env, Try.f6.ntmps, Try.f6.results.toList, some gatherumlaw03_SpanTells.sh, rel, [], []⟩
noncomputable def gatherumlaw03_SpanTells.t : Tree := (.ask 12 [] [.b] (.ite (.not (.va 5)) (.ret [(.bo (.co false))]) (.ask 19 [(.ex (.va 0)), (.ex (.va 1)), (.ex (.va 2)), (.ex (.va 3))] [.i, .i] (.ask 20 [(.ex (.va 0)), (.ex (.va 1)), (.ex (.va 2)), (.ex (.va 3))] [.i, .i] (.ask 21 [(.ex (.va 0)), (.ex (.va 1)), (.ex (.va 4))] [.b] (.ask 17 [(.ex (.va 0)), (.ex (.va 1)), (.ex (.va 4))] [.b] (.ite (.not (.eqb (.va 10) (.va 11))) (.ret [(.bo (.co false))]) (.ask 22 [(.ex (.va 0)), (.ex (.va 1))] [.b] (.ask 14 [(.ex (.va 0)), (.ex (.va 1))] [.b] (.ite (.not (.eqb (.va 12) (.va 13))) (.ret [(.bo (.co false))]) (.ask 17 [(.ex (.va 6)), (.ex (.va 7)), (.ex (.va 4))] [.b] (.ite (.va 11) (.ask 17 [(.ex (.va 2)), (.ex (.va 3)), (.ex (.va 4))] [.b] (.ite (.not (.eqb (.va 14) (.va 15))) (.ret [(.bo (.co false))]) (.ask 17 [(.ex (.va 8)), (.ex (.va 9)), (.ex (.va 4))] [.b] (.ite (.not (.va 16)) (.ret [(.bo (.co false))]) (.ask 14 [(.ex (.va 6)), (.ex (.va 7))] [.b] (.ite (.va 17) (.ite (.not (.and (.eq (.va 6) (.nu 0)) (.eq (.va 7) (.nu 0)))) (.ret [(.bo (.co false))]) (.ask 23 [(.ex (.va 0)), (.ex (.va 1)), (.ex (.va 2)), (.ex (.va 3))] [.b] (.ite (.not (.eqb (.va 18) (.va 17))) (.ret [(.bo (.co false))]) (.ite (.va 13) (.ask 14 [(.ex (.va 2)), (.ex (.va 3))] [.b] (.ite (.va 19) (.ret [(.bo (.and (.eq (.va 8) (.nu 0)) (.eq (.va 9) (.nu 0))))]) (.ite (.eq (.va 8) (.va 0)) (.ite (.eq (.va 8) (.va 2)) (.ite (.eq (.va 9) (.va 1)) (.ite (.eq (.va 9) (.va 3)) (.ask 18 [(.ex (.va 0)), (.ex (.va 1)), (.ex (.va 8)), (.ex (.va 9))] [.b] (.ite (.va 20) (.ask 18 [(.ex (.va 2)), (.ex (.va 3)), (.ex (.va 8)), (.ex (.va 9))] [.b] (.ite (.va 21) (.ask 18 [(.ex (.va 0)), (.ex (.va 1)), (.ex (.va 2)), (.ex (.va 3))] [.b] (.ite (.not (.va 22)) (.ret [(.bo (.co true))]) (.ret [(.bo (.va 15))]))) (.ret [(.bo (.co false))]))) (.ret [(.bo (.co false))]))) (.ret [(.bo (.co false))])) (.ite (.eq (.va 9) (.va 3)) (.ask 18 [(.ex (.va 0)), (.ex (.va 1)), (.ex (.va 8)), (.ex (.va 9))] [.b] (.ite (.va 20) (.ask 18 [(.ex (.va 2)), (.ex (.va 3)), (.ex (.va 8)), (.ex (.va 9))] [.b] (.ite (.va 21) (.ask 18 [(.ex (.va 0)), (.ex (.va 1)), (.ex (.va 2)), (.ex (.va 3))] [.b] (.ite (.not (.va 22)) (.ret [(.bo (.co true))]) (.ret [(.bo (.va 15))]))) (.ret [(.bo (.co false))]))) (.ret [(.bo (.co false))]))) (.ret [(.bo (.co false))]))) (.ret [(.bo (.co false))])) (.ite (.eq (.va 8) (.va 2)) (.ite (.eq (.va 9) (.va 1)) (.ite (.eq (.va 9) (.va 3)) (.ask 18 [(.ex (.va 0)), (.ex (.va 1)), (.ex (.va 8)), (.ex (.va 9))] [.b] (.ite (.va 20) (.ask 18 [(.ex (.va 2)), (.ex (.va 3)), (.ex (.va 8)), (.ex (.va 9))] [.b] (.ite (.va 21) (.ask 18 [(.ex (.va 0)), (.ex (.va 1)), (.ex (.va 2)), (.ex (.va 3))] [.b] (.ite (.not (.va 22)) (.ret [(.bo (.co true))]) (.ret [(.bo (.va 15))]))) (.ret [(.bo (.co false))]))) (.ret [(.bo (.co false))]))) (.ret [(.bo (.co false))])) (.ite (.eq (.va 9) (.va 3)) (.ask 18 [(.ex (.va 0)), (.ex (.va 1)), (.ex (.va 8)), (.ex (.va 9))] [.b] (.ite (.va 20) (.ask 18 [(.ex (.va 2)), (.ex (.va 3)), (.ex (.va 8)), (.ex (.va 9))] [.b] (.ite (.va 21) (.ask 18 [(.ex (.va 0)), (.ex (.va 1)), (.ex (.va 2)), (.ex (.va 3))] [.b] (.ite (.not (.va 22)) (.ret [(.bo (.co true))]) (.ret [(.bo (.va 15))]))) (.ret [(.bo (.co false))]))) (.ret [(.bo (.co false))]))) (.ret [(.bo (.co false))]))) (.ret [(.bo (.co false))]))))) (.ite (.eq (.va 8) (.va 0)) (.ite (.eq (.va 9) (.va 1)) (.ask 18 [(.ex (.va 0)), (.ex (.va 1)), (.ex (.va 8)), (.ex (.va 9))] [.b] (.ite (.va 19) (.ask 18 [(.ex (.va 2)), (.ex (.va 3)), (.ex (.va 8)), (.ex (.va 9))] [.b] (.ite (.va 20) (.ask 18 [(.ex (.va 0)), (.ex (.va 1)), (.ex (.va 2)), (.ex (.va 3))] [.b] (.ite (.not (.va 21)) (.ret [(.bo (.co true))]) (.ret [(.bo (.va 15))]))) (.ret [(.bo (.co false))]))) (.ret [(.bo (.co false))]))) (.ite (.eq (.va 9) (.va 3)) (.ask 14 [(.ex (.va 2)), (.ex (.va 3))] [.b] (.ite (.not (.va 19)) (.ask 18 [(.ex (.va 0)), (.ex (.va 1)), (.ex (.va 8)), (.ex (.va 9))] [.b] (.ite (.va 20) (.ask 18 [(.ex (.va 2)), (.ex (.va 3)), (.ex (.va 8)), (.ex (.va 9))] [.b] (.ite (.va 21) (.ask 18 [(.ex (.va 0)), (.ex (.va 1)), (.ex (.va 2)), (.ex (.va 3))] [.b] (.ite (.not (.va 22)) (.ret [(.bo (.co true))]) (.ret [(.bo (.va 15))]))) (.ret [(.bo (.co false))]))) (.ret [(.bo (.co false))]))) (.ret [(.bo (.co false))]))) (.ret [(.bo (.co false))]))) (.ite (.eq (.va 8) (.va 2)) (.ask 14 [(.ex (.va 2)), (.ex (.va 3))] [.b] (.ite (.not (.va 19)) (.ite (.eq (.va 9) (.va 1)) (.ask 18 [(.ex (.va 0)), (.ex (.va 1)), (.ex (.va 8)), (.ex (.va 9))] [.b] (.ite (.va 20) (.ask 18 [(.ex (.va 2)), (.ex (.va 3)), (.ex (.va 8)), (.ex (.va 9))] [.b] (.ite (.va 21) (.ask 18 [(.ex (.va 0)), (.ex (.va 1)), (.ex (.va 2)), (.ex (.va 3))] [.b] (.ite (.not (.va 22)) (.ret [(.bo (.co true))]) (.ret [(.bo (.va 15))]))) (.ret [(.bo (.co false))]))) (.ret [(.bo (.co false))]))) (.ite (.eq (.va 9) (.va 3)) (.ask 18 [(.ex (.va 0)), (.ex (.va 1)), (.ex (.va 8)), (.ex (.va 9))] [.b] (.ite (.va 20) (.ask 18 [(.ex (.va 2)), (.ex (.va 3)), (.ex (.va 8)), (.ex (.va 9))] [.b] (.ite (.va 21) (.ask 18 [(.ex (.va 0)), (.ex (.va 1)), (.ex (.va 2)), (.ex (.va 3))] [.b] (.ite (.not (.va 22)) (.ret [(.bo (.co true))]) (.ret [(.bo (.va 15))]))) (.ret [(.bo (.co false))]))) (.ret [(.bo (.co false))]))) (.ret [(.bo (.co false))]))) (.ret [(.bo (.co false))]))) (.ret [(.bo (.co false))]))))))) (.ask 23 [(.ex (.va 0)), (.ex (.va 1)), (.ex (.va 2)), (.ex (.va 3))] [.b] (.ite (.not (.eqb (.va 18) (.va 17))) (.ret [(.bo (.co false))]) (.ite (.va 13) (.ask 14 [(.ex (.va 2)), (.ex (.va 3))] [.b] (.ite (.va 19) (.ret [(.bo (.and (.eq (.va 8) (.nu 0)) (.eq (.va 9) (.nu 0))))]) (.ite (.eq (.va 8) (.va 0)) (.ite (.eq (.va 8) (.va 2)) (.ite (.eq (.va 9) (.va 1)) (.ite (.eq (.va 9) (.va 3)) (.ask 18 [(.ex (.va 0)), (.ex (.va 1)), (.ex (.va 8)), (.ex (.va 9))] [.b] (.ite (.va 20) (.ask 18 [(.ex (.va 2)), (.ex (.va 3)), (.ex (.va 8)), (.ex (.va 9))] [.b] (.ite (.va 21) (.ask 18 [(.ex (.va 0)), (.ex (.va 1)), (.ex (.va 2)), (.ex (.va 3))] [.b] (.ite (.not (.va 22)) (.ret [(.bo (.co true))]) (.ret [(.bo (.va 15))]))) (.ret [(.bo (.co false))]))) (.ret [(.bo (.co false))]))) (.ret [(.bo (.co false))])) (.ite (.eq (.va 9) (.va 3)) (.ask 18 [(.ex (.va 0)), (.ex (.va 1)), (.ex (.va 8)), (.ex (.va 9))] [.b] (.ite (.va 20) (.ask 18 [(.ex (.va 2)), (.ex (.va 3)), (.ex (.va 8)), (.ex (.va 9))] [.b] (.ite (.va 21) (.ask 18 [(.ex (.va 0)), (.ex (.va 1)), (.ex (.va 2)), (.ex (.va 3))] [.b] (.ite (.not (.va 22)) (.ret [(.bo (.co true))]) (.ret [(.bo (.va 15))]))) (.ret [(.bo (.co false))]))) (.ret [(.bo (.co false))]))) (.ret [(.bo (.co false))]))) (.ret [(.bo (.co false))])) (.ite (.eq (.va 8) (.va 2)) (.ite (.eq (.va 9) (.va 1)) (.ite (.eq (.va 9) (.va 3)) (.ask 18 [(.ex (.va 0)), (.ex (.va 1)), (.ex (.va 8)), (.ex (.va 9))] [.b] (.ite (.va 20) (.ask 18 [(.ex (.va 2)), (.ex (.va 3)), (.ex (.va 8)), (.ex (.va 9))] [.b] (.ite (.va 21) (.ask 18 [(.ex (.va 0)), (.ex (.va 1)), (.ex (.va 2)), (.ex (.va 3))] [.b] (.ite (.not (.va 22)) (.ret [(.bo (.co true))]) (.ret [(.bo (.va 15))]))) (.ret [(.bo (.co false))]))) (.ret [(.bo (.co false))]))) (.ret [(.bo (.co false))])) (.ite (.eq (.va 9) (.va 3)) (.ask 18 [(.ex (.va 0)), (.ex (.va 1)), (.ex (.va 8)), (.ex (.va 9))] [.b] (.ite (.va 20) (.ask 18 [(.ex (.va 2)), (.ex (.va 3)), (.ex (.va 8)), (.ex (.va 9))] [.b] (.ite (.va 21) (.ask 18 [(.ex (.va 0)), (.ex (.va 1)), (.ex (.va 2)), (.ex (.va 3))] [.b] (.ite (.not (.va 22)) (.ret [(.bo (.co true))]) (.ret [(.bo (.va 15))]))) (.ret [(.bo (.co false))]))) (.ret [(.bo (.co false))]))) (.ret [(.bo (.co false))]))) (.ret [(.bo (.co false))]))))) (.ite (.eq (.va 8) (.va 0)) (.ite (.eq (.va 9) (.va 1)) (.ask 18 [(.ex (.va 0)), (.ex (.va 1)), (.ex (.va 8)), (.ex (.va 9))] [.b] (.ite (.va 19) (.ask 18 [(.ex (.va 2)), (.ex (.va 3)), (.ex (.va 8)), (.ex (.va 9))] [.b] (.ite (.va 20) (.ask 18 [(.ex (.va 0)), (.ex (.va 1)), (.ex (.va 2)), (.ex (.va 3))] [.b] (.ite (.not (.va 21)) (.ret [(.bo (.co true))]) (.ret [(.bo (.va 15))]))) (.ret [(.bo (.co false))]))) (.ret [(.bo (.co false))]))) (.ite (.eq (.va 9) (.va 3)) (.ask 14 [(.ex (.va 2)), (.ex (.va 3))] [.b] (.ite (.not (.va 19)) (.ask 18 [(.ex (.va 0)), (.ex (.va 1)), (.ex (.va 8)), (.ex (.va 9))] [.b] (.ite (.va 20) (.ask 18 [(.ex (.va 2)), (.ex (.va 3)), (.ex (.va 8)), (.ex (.va 9))] [.b] (.ite (.va 21) (.ask 18 [(.ex (.va 0)), (.ex (.va 1)), (.ex (.va 2)), (.ex (.va 3))] [.b] (.ite (.not (.va 22)) (.ret [(.bo (.co true))]) (.ret [(.bo (.va 15))]))) (.ret [(.bo (.co false))]))) (.ret [(.bo (.co false))]))) (.ret [(.bo (.co false))]))) (.ret [(.bo (.co false))]))) (.ite (.eq (.va 8) (.va 2)) (.ask 14 [(.ex (.va 2)), (.ex (.va 3))] [.b] (.ite (.not (.va 19)) (.ite (.eq (.va 9) (.va 1)) (.ask 18 [(.ex (.va 0)), (.ex (.va 1)), (.ex (.va 8)), (.ex (.va 9))] [.b] (.ite (.va 20) (.ask 18 [(.ex (.va 2)), (.ex (.va 3)), (.ex (.va 8)), (.ex (.va 9))] [.b] (.ite (.va 21) (.ask 18 [(.ex (.va 0)), (.ex (.va 1)), (.ex (.va 2)), (.ex (.va 3))] [.b] (.ite (.not (.va 22)) (.ret [(.bo (.co true))]) (.ret [(.bo (.va 15))]))) (.ret [(.bo (.co false))]))) (.ret [(.bo (.co false))]))) (.ite (.eq (.va 9) (.va 3)) (.ask 18 [(.ex (.va 0)), (.ex (.va 1)), (.ex (.va 8)), (.ex (.va 9))] [.b] (.ite (.va 20) (.ask 18 [(.ex (.va 2)), (.ex (.va 3)), (.ex (.va 8)), (.ex (.va 9))] [.b] (.ite (.va 21) (.ask 18 [(.ex (.va 0)), (.ex (.va 1)), (.ex (.va 2)), (.ex (.va 3))] [.b] (.ite (.not (.va 22)) (.ret [(.bo (.co true))]) (.ret [(.bo (.va 15))]))) (.ret [(.bo (.co false))]))) (.ret [(.bo (.co false))]))) (.ret [(.bo (.co false))]))) (.ret [(.bo (.co false))]))) (.ret [(.bo (.co false))])))))))))))) (.ite (.va 14) (.ret [(.bo (.co false))]) (.ask 17 [(.ex (.va 2)), (.ex (.va 3)), (.ex (.va 4))] [.b] (.ite (.va 15) (.ask 17 [(.ex (.va 8)), (.ex (.va 9)), (.ex (.va 4))] [.b] (.ite (.not (.va 16)) (.ret [(.bo (.co false))]) (.ask 14 [(.ex (.va 6)), (.ex (.va 7))] [.b] (.ite (.va 17) (.ite (.not (.and (.eq (.va 6) (.nu 0)) (.eq (.va 7) (.nu 0)))) (.ret [(.bo (.co false))]) (.ask 23 [(.ex (.va 0)), (.ex (.va 1)), (.ex (.va 2)), (.ex (.va 3))] [.b] (.ite (.not (.eqb (.va 18) (.va 17))) (.ret [(.bo (.co false))]) (.ite (.va 13) (.ask 14 [(.ex (.va 2)), (.ex (.va 3))] [.b] (.ite (.va 19) (.ret [(.bo (.and (.eq (.va 8) (.nu 0)) (.eq (.va 9) (.nu 0))))]) (.ite (.eq (.va 8) (.va 0)) (.ite (.eq (.va 8) (.va 2)) (.ite (.eq (.va 9) (.va 1)) (.ite (.eq (.va 9) (.va 3)) (.ask 18 [(.ex (.va 0)), (.ex (.va 1)), (.ex (.va 8)), (.ex (.va 9))] [.b] (.ite (.va 20) (.ask 18 [(.ex (.va 2)), (.ex (.va 3)), (.ex (.va 8)), (.ex (.va 9))] [.b] (.ite (.va 21) (.ask 18 [(.ex (.va 0)), (.ex (.va 1)), (.ex (.va 2)), (.ex (.va 3))] [.b] (.ite (.not (.va 22)) (.ret [(.bo (.co true))]) (.ret [(.bo (.co true))]))) (.ret [(.bo (.co false))]))) (.ret [(.bo (.co false))]))) (.ret [(.bo (.co false))])) (.ite (.eq (.va 9) (.va 3)) (.ask 18 [(.ex (.va 0)), (.ex (.va 1)), (.ex (.va 8)), (.ex (.va 9))] [.b] (.ite (.va 20) (.ask 18 [(.ex (.va 2)), (.ex (.va 3)), (.ex (.va 8)), (.ex (.va 9))] [.b] (.ite (.va 21) (.ask 18 [(.ex (.va 0)), (.ex (.va 1)), (.ex (.va 2)), (.ex (.va 3))] [.b] (.ite (.not (.va 22)) (.ret [(.bo (.co true))]) (.ret [(.bo (.co true))]))) (.ret [(.bo (.co false))]))) (.ret [(.bo (.co false))]))) (.ret [(.bo (.co false))]))) (.ret [(.bo (.co false))])) (.ite (.eq (.va 8) (.va 2)) (.ite (.eq (.va 9) (.va 1)) (.ite (.eq (.va 9) (.va 3)) (.ask 18 [(.ex (.va 0)), (.ex (.va 1)), (.ex (.va 8)), (.ex (.va 9))] [.b] (.ite (.va 20) (.ask 18 [(.ex (.va 2)), (.ex (.va 3)), (.ex (.va 8)), (.ex (.va 9))] [.b] (.ite (.va 21) (.ask 18 [(.ex (.va 0)), (.ex (.va 1)), (.ex (.va 2)), (.ex (.va 3))] [.b] (.ite (.not (.va 22)) (.ret [(.bo (.co true))]) (.ret [(.bo (.co true))]))) (.ret [(.bo (.co false))]))) (.ret [(.bo (.co false))]))) (.ret [(.bo (.co false))])) (.ite (.eq (.va 9) (.va 3)) (.ask 18 [(.ex (.va 0)), (.ex (.va 1)), (.ex (.va 8)), (.ex (.va 9))] [.b] (.ite (.va 20) (.ask 18 [(.ex (.va 2)), (.ex (.va 3)), (.ex (.va 8)), (.ex (.va 9))] [.b] (.ite (.va 21) (.ask 18 [(.ex (.va 0)), (.ex (.va 1)), (.ex (.va 2)), (.ex (.va 3))] [.b] (.ite (.not (.va 22)) (.ret [(.bo (.co true))]) (.ret [(.bo (.co true))]))) (.ret [(.bo (.co false))]))) (.ret [(.bo (.co false))]))) (.ret [(.bo (.co false))]))) (.ret [(.bo (.co false))]))))) (.ite (.eq (.va 8) (.va 0)) (.ite (.eq (.va 9) (.va 1)) (.ask 18 [(.ex (.va 0)), (.ex (.va 1)), (.ex (.va 8)), (.ex (.va 9))] [.b] (.ite (.va 19) (.ask 18 [(.ex (.va 2)), (.ex (.va 3)), (.ex (.va 8)), (.ex (.va 9))] [.b] (.ite (.va 20) (.ask 18 [(.ex (.va 0)), (.ex (.va 1)), (.ex (.va 2)), (.ex (.va 3))] [.b] (.ite (.not (.va 21)) (.ret [(.bo (.co true))]) (.ret [(.bo (.co true))]))) (.ret [(.bo (.co false))]))) (.ret [(.bo (.co false))]))) (.ite (.eq (.va 9) (.va 3)) (.ask 14 [(.ex (.va 2)), (.ex (.va 3))] [.b] (.ite (.not (.va 19)) (.ask 18 [(.ex (.va 0)), (.ex (.va 1)), (.ex (.va 8)), (.ex (.va 9))] [.b] (.ite (.va 20) (.ask 18 [(.ex (.va 2)), (.ex (.va 3)), (.ex (.va 8)), (.ex (.va 9))] [.b] (.ite (.va 21) (.ask 18 [(.ex (.va 0)), (.ex (.va 1)), (.ex (.va 2)), (.ex (.va 3))] [.b] (.ite (.not (.va 22)) (.ret [(.bo (.co true))]) (.ret [(.bo (.co true))]))) (.ret [(.bo (.co false))]))) (.ret [(.bo (.co false))]))) (.ret [(.bo (.co false))]))) (.ret [(.bo (.co false))]))) (.ite (.eq (.va 8) (.va 2)) (.ask 14 [(.ex (.va 2)), (.ex (.va 3))] [.b] (.ite (.not (.va 19)) (.ite (.eq (.va 9) (.va 1)) (.ask 18 [(.ex (.va 0)), (.ex (.va 1)), (.ex (.va 8)), (.ex (.va 9))] [.b] (.ite (.va 20) (.ask 18 [(.ex (.va 2)), (.ex (.va 3)), (.ex (.va 8)), (.ex (.va 9))] [.b] (.ite (.va 21) (.ask 18 [(.ex (.va 0)), (.ex (.va 1)), (.ex (.va 2)), (.ex (.va 3))] [.b] (.ite (.not (.va 22)) (.ret [(.bo (.co true))]) (.ret [(.bo (.co true))]))) (.ret [(.bo (.co false))]))) (.ret [(.bo (.co false))]))) (.ite (.eq (.va 9) (.va 3)) (.ask 18 [(.ex (.va 0)), (.ex (.va 1)), (.ex (.va 8)), (.ex (.va 9))] [.b] (.ite (.va 20) (.ask 18 [(.ex (.va 2)), (.ex (.va 3)), (.ex (.va 8)), (.ex (.va 9))] [.b] (.ite (.va 21) (.ask 18 [(.ex (.va 0)), (.ex (.va 1)), (.ex (.va 2)), (.ex (.va 3))] [.b] (.ite (.not (.va 22)) (.ret [(.bo (.co true))]) (.ret [(.bo (.co true))]))) (.ret [(.bo (.co false))]))) (.ret [(.bo (.co false))]))) (.ret [(.bo (.co false))]))) (.ret [(.bo (.co false))]))) (.ret [(.bo (.co false))]))))))) (.ask 23 [(.ex (.va 0)), (.ex (.va 1)), (.ex (.va 2)), (.ex (.va 3))] [.b] (.ite (.not (.eqb (.va 18) (.va 17))) (.ret [(.bo (.co false))]) (.ite (.va 13) (.ask 14 [(.ex (.va 2)), (.ex (.va 3))] [.b] (.ite (.va 19) (.ret [(.bo (.and (.eq (.va 8) (.nu 0)) (.eq (.va 9) (.nu 0))))]) (.ite (.eq (.va 8) (.va 0)) (.ite (.eq (.va 8) (.va 2)) (.ite (.eq (.va 9) (.va 1)) (.ite (.eq (.va 9) (.va 3)) (.ask 18 [(.ex (.va 0)), (.ex (.va 1)), (.ex (.va 8)), (.ex (.va 9))] [.b] (.ite (.va 20) (.ask 18 [(.ex (.va 2)), (.ex (.va 3)), (.ex (.va 8)), (.ex (.va 9))] [.b] (.ite (.va 21) (.ask 18 [(.ex (.va 0)), (.ex (.va 1)), (.ex (.va 2)), (.ex (.va 3))] [.b] (.ite (.not (.va 22)) (.ret [(.bo (.co true))]) (.ret [(.bo (.co true))]))) (.ret [(.bo (.co false))]))) (.ret [(.bo (.co false))]))) (.ret [(.bo (.co false))])) (.ite (.eq (.va 9) (.va 3)) (.ask 18 [(.ex (.va 0)), (.ex (.va 1)), (.ex (.va 8)), (.ex (.va 9))] [.b] (.ite (.va 20) (.ask 18 [(.ex (.va 2)), (.ex (.va 3)), (.ex (.va 8)), (.ex (.va 9))] [.b] (.ite (.va 21) (.ask 18 [(.ex (.va 0)), (.ex (.va 1)), (.ex (.va 2)), (.ex (.va 3))] [.b] (.ite (.not (.va 22)) (.ret [(.bo (.co true))]) (.ret [(.bo (.co true))]))) (.ret [(.bo (.co false))]))) (.ret [(.bo (.co false))]))) (.ret [(.bo (.co false))]))) (.ret [(.bo (.co false))])) (.ite (.eq (.va 8) (.va 2)) (.ite (.eq (.va 9) (.va 1)) (.ite (.eq (.va 9) (.va 3)) (.ask 18 [(.ex (.va 0)), (.ex (.va 1)), (.ex (.va 8)), (.ex (.va 9))] [.b] (.ite (.va 20) (.ask 18 [(.ex (.va 2)), (.ex (.va 3)), (.ex (.va 8)), (.ex (.va 9))] [.b] (.ite (.va 21) (.ask 18 [(.ex (.va 0)), (.ex (.va 1)), (.ex (.va 2)), (.ex (.va 3))] [.b] (.ite (.not (.va 22)) (.ret [(.bo (.co true))]) (.ret [(.bo (.co true))]))) (.ret [(.bo (.co false))]))) (.ret [(.bo (.co false))]))) (.ret [(.bo (.co false))])) (.ite (.eq (.va 9) (.va 3)) (.ask 18 [(.ex (.va 0)), (.ex (.va 1)), (.ex (.va 8)), (.ex (.va 9))] [.b] (.ite (.va 20) (.ask 18 [(.ex (.va 2)), (.ex (.va 3)), (.ex (.va 8)), (.ex (.va 9))] [.b] (.ite (.va 21) (.ask 18 [(.ex (.va 0)), (.ex (.va 1)), (.ex (.va 2)), (.ex (.va 3))] [.b] (.ite (.not (.va 22)) (.ret [(.bo (.co true))]) (.ret [(.bo (.co true))]))) (.ret [(.bo (.co false))]))) (.ret [(.bo (.co false))]))) (.ret [(.bo (.co false))]))) (.ret [(.bo (.co false))]))))) (.ite (.eq (.va 8) (.va 0)) (.ite (.eq (.va 9) (.va 1)) (.ask 18 [(.ex (.va 0)), (.ex (.va 1)), (.ex (.va 8)), (.ex (.va 9))] [.b] (.ite (.va 19) (.ask 18 [(.ex (.va 2)), (.ex (.va 3)), (.ex (.va 8)), (.ex (.va 9))] [.b] (.ite (.va 20) (.ask 18 [(.ex (.va 0)), (.ex (.va 1)), (.ex (.va 2)), (.ex (.va 3))] [.b] (.ite (.not (.va 21)) (.ret [(.bo (.co true))]) (.ret [(.bo (.co true))]))) (.ret [(.bo (.co false))]))) (.ret [(.bo (.co false))]))) (.ite (.eq (.va 9) (.va 3)) (.ask 14 [(.ex (.va 2)), (.ex (.va 3))] [.b] (.ite (.not (.va 19)) (.ask 18 [(.ex (.va 0)), (.ex (.va 1)), (.ex (.va 8)), (.ex (.va 9))] [.b] (.ite (.va 20) (.ask 18 [(.ex (.va 2)), (.ex (.va 3)), (.ex (.va 8)), (.ex (.va 9))] [.b] (.ite (.va 21) (.ask 18 [(.ex (.va 0)), (.ex (.va 1)), (.ex (.va 2)), (.ex (.va 3))] [.b] (.ite (.not (.va 22)) (.ret [(.bo (.co true))]) (.ret [(.bo (.co true))]))) (.ret [(.bo (.co false))]))) (.ret [(.bo (.co false))]))) (.ret [(.bo (.co false))]))) (.ret [(.bo (.co false))]))) (.ite (.eq (.va 8) (.va 2)) (.ask 14 [(.ex (.va 2)), (.ex (.va 3))] [.b] (.ite (.not (.va 19)) (.ite (.eq (.va 9) (.va 1)) (.ask 18 [(.ex (.va 0)), (.ex (.va 1)), (.ex (.va 8)), (.ex (.va 9))] [.b] (.ite (.va 20) (.ask 18 [(.ex (.va 2)), (.ex (.va 3)), (.ex (.va 8)), (.ex (.va 9))] [.b] (.ite (.va 21) (.ask 18 [(.ex (.va 0)), (.ex (.va 1)), (.ex (.va 2)), (.ex (.va 3))] [.b] (.ite (.not (.va 22)) (.ret [(.bo (.co true))]) (.ret [(.bo (.co true))]))) (.ret [(.bo (.co false))]))) (.ret [(.bo (.co false))]))) (.ite (.eq (.va 9) (.va 3)) (.ask 18 [(.ex (.va 0)), (.ex (.va 1)), (.ex (.va 8)), (.ex (.va 9))] [.b] (.ite (.va 20) (.ask 18 [(.ex (.va 2)), (.ex (.va 3)), (.ex (.va 8)), (.ex (.va 9))] [.b] (.ite (.va 21) (.ask 18 [(.ex (.va 0)), (.ex (.va 1)), (.ex (.va 2)), (.ex (.va 3))] [.b] (.ite (.not (.va 22)) (.ret [(.bo (.co true))]) (.ret [(.bo (.co true))]))) (.ret [(.bo (.co false))]))) (.ret [(.bo (.co false))]))) (.ret [(.bo (.co false))]))) (.ret [(.bo (.co false))]))) (.ret [(.bo (.co false))])))))))))) (.ask 14 [(.ex (.va 6)), (.ex (.va 7))] [.b] (.ite (.va 16) (.ite (.not (.and (.eq (.va 6) (.nu 0)) (.eq (.va 7) (.nu 0)))) (.ret [(.bo (.co false))]) (.ask 23 [(.ex (.va 0)), (.ex (.va 1)), (.ex (.va 2)), (.ex (.va 3))] [.b] (.ite (.not (.eqb (.va 17) (.va 16))) (.ret [(.bo (.co false))]) (.ite (.va 13) (.ask 14 [(.ex (.va 2)), (.ex (.va 3))] [.b] (.ite (.va 18) (.ret [(.bo (.and (.eq (.va 8) (.nu 0)) (.eq (.va 9) (.nu 0))))]) (.ite (.eq (.va 8) (.va 0)) (.ite (.eq (.va 8) (.va 2)) (.ite (.eq (.va 9) (.va 1)) (.ite (.eq (.va 9) (.va 3)) (.ask 18 [(.ex (.va 0)), (.ex (.va 1)), (.ex (.va 8)), (.ex (.va 9))] [.b] (.ite (.va 19) (.ask 18 [(.ex (.va 2)), (.ex (.va 3)), (.ex (.va 8)), (.ex (.va 9))] [.b] (.ite (.va 20) (.ask 18 [(.ex (.va 0)), (.ex (.va 1)), (.ex (.va 2)), (.ex (.va 3))] [.b] (.ite (.not (.va 21)) (.ret [(.bo (.co true))]) (.ret [(.bo (.co true))]))) (.ret [(.bo (.co false))]))) (.ret [(.bo (.co false))]))) (.ret [(.bo (.co false))])) (.ite (.eq (.va 9) (.va 3)) (.ask 18 [(.ex (.va 0)), (.ex (.va 1)), (.ex (.va 8)), (.ex (.va 9))] [.b] (.ite (.va 19) (.ask 18 [(.ex (.va 2)), (.ex (.va 3)), (.ex (.va 8)), (.ex (.va 9))] [.b] (.ite (.va 20) (.ask 18 [(.ex (.va 0)), (.ex (.va 1)), (.ex (.va 2)), (.ex (.va 3))] [.b] (.ite (.not (.va 21)) (.ret [(.bo (.co true))]) (.ret [(.bo (.co true))]))) (.ret [(.bo (.co false))]))) (.ret [(.bo (.co false))]))) (.ret [(.bo (.co false))]))) (.ret [(.bo (.co false))])) (.ite (.eq (.va 8) (.va 2)) (.ite (.eq (.va 9) (.va 1)) (.ite (.eq (.va 9) (.va 3)) (.ask 18 [(.ex (.va 0)), (.ex (.va 1)), (.ex (.va 8)), (.ex (.va 9))] [.b] (.ite (.va 19) (.ask 18 [(.ex (.va 2)), (.ex (.va 3)), (.ex (.va 8)), (.ex (.va 9))] [.b] (.ite (.va 20) (.ask 18 [(.ex (.va 0)), (.ex (.va 1)), (.ex (.va 2)), (.ex (.va 3))] [.b] (.ite (.not (.va 21)) (.ret [(.bo (.co true))]) (.ret [(.bo (.co true))]))) (.ret [(.bo (.co false))]))) (.ret [(.bo (.co false))]))) (.ret [(.bo (.co false))])) (.ite (.eq (.va 9) (.va 3)) (.ask 18 [(.ex (.va 0)), (.ex (.va 1)), (.ex (.va 8)), (.ex (.va 9))] [.b] (.ite (.va 19) (.ask 18 [(.ex (.va 2)), (.ex (.va 3)), (.ex (.va 8)), (.ex (.va 9))] [.b] (.ite (.va 20) (.ask 18 [(.ex (.va 0)), (.ex (.va 1)), (.ex (.va 2)), (.ex (.va 3))] [.b] (.ite (.not (.va 21)) (.ret [(.bo (.co true))]) (.ret [(.bo (.co true))]))) (.ret [(.bo (.co false))]))) (.ret [(.bo (.co false))]))) (.ret [(.bo (.co false))]))) (.ret [(.bo (.co false))]))))) (.ite (.eq (.va 8) (.va 0)) (.ite (.eq (.va 9) (.va 1)) (.ask 18 [(.ex (.va 0)), (.ex (.va 1)), (.ex (.va 8)), (.ex (.va 9))] [.b] (.ite (.va 18) (.ask 18 [(.ex (.va 2)), (.ex (.va 3)), (.ex (.va 8)), (.ex (.va 9))] [.b] (.ite (.va 19) (.ask 18 [(.ex (.va 0)), (.ex (.va 1)), (.ex (.va 2)), (.ex (.va 3))] [.b] (.ite (.not (.va 20)) (.ret [(.bo (.co true))]) (.ret [(.bo (.co true))]))) (.ret [(.bo (.co false))]))) (.ret [(.bo (.co false))]))) (.ite (.eq (.va 9) (.va 3)) (.ask 14 [(.ex (.va 2)), (.ex (.va 3))] [.b] (.ite (.not (.va 18)) (.ask 18 [(.ex (.va 0)), (.ex (.va 1)), (.ex (.va 8)), (.ex (.va 9))] [.b] (.ite (.va 19) (.ask 18 [(.ex (.va 2)), (.ex (.va 3)), (.ex (.va 8)), (.ex (.va 9))] [.b] (.ite (.va 20) (.ask 18 [(.ex (.va 0)), (.ex (.va 1)), (.ex (.va 2)), (.ex (.va 3))] [.b] (.ite (.not (.va 21)) (.ret [(.bo (.co true))]) (.ret [(.bo (.co true))]))) (.ret [(.bo (.co false))]))) (.ret [(.bo (.co false))]))) (.ret [(.bo (.co false))]))) (.ret [(.bo (.co false))]))) (.ite (.eq (.va 8) (.va 2)) (.ask 14 [(.ex (.va 2)), (.ex (.va 3))] [.b] (.ite (.not (.va 18)) (.ite (.eq (.va 9) (.va 1)) (.ask 18 [(.ex (.va 0)), (.ex (.va 1)), (.ex (.va 8)), (.ex (.va 9))] [.b] (.ite (.va 19) (.ask 18 [(.ex (.va 2)), (.ex (.va 3)), (.ex (.va 8)), (.ex (.va 9))] [.b] (.ite (.va 20) (.ask 18 [(.ex (.va 0)), (.ex (.va 1)), (.ex (.va 2)), (.ex (.va 3))] [.b] (.ite (.not (.va 21)) (.ret [(.bo (.co true))]) (.ret [(.bo (.co true))]))) (.ret [(.bo (.co false))]))) (.ret [(.bo (.co false))]))) (.ite (.eq (.va 9) (.va 3)) (.ask 18 [(.ex (.va 0)), (.ex (.va 1)), (.ex (.va 8)), (.ex (.va 9))] [.b] (.ite (.va 19) (.ask 18 [(.ex (.va 2)), (.ex (.va 3)), (.ex (.va 8)), (.ex (.va 9))] [.b] (.ite (.va 20) (.ask 18 [(.ex (.va 0)), (.ex (.va 1)), (.ex (.va 2)), (.ex (.va 3))] [.b] (.ite (.not (.va 21)) (.ret [(.bo (.co true))]) (.ret [(.bo (.co true))]))) (.ret [(.bo (.co false))]))) (.ret [(.bo (.co false))]))) (.ret [(.bo (.co false))]))) (.ret [(.bo (.co false))]))) (.ret [(.bo (.co false))]))))))) (.ask 23 [(.ex (.va 0)), (.ex (.va 1)), (.ex (.va 2)), (.ex (.va 3))] [.b] (.ite (.not (.eqb (.va 17) (.va 16))) (.ret [(.bo (.co false))]) (.ite (.va 13) (.ask 14 [(.ex (.va 2)), (.ex (.va 3))] [.b] (.ite (.va 18) (.ret [(.bo (.and (.eq (.va 8) (.nu 0)) (.eq (.va 9) (.nu 0))))]) (.ite (.eq (.va 8) (.va 0)) (.ite (.eq (.va 8) (.va 2)) (.ite (.eq (.va 9) (.va 1)) (.ite (.eq (.va 9) (.va 3)) (.ask 18 [(.ex (.va 0)), (.ex (.va 1)), (.ex (.va 8)), (.ex (.va 9))] [.b] (.ite (.va 19) (.ask 18 [(.ex (.va 2)), (.ex (.va 3)), (.ex (.va 8)), (.ex (.va 9))] [.b] (.ite (.va 20) (.ask 18 [(.ex (.va 0)), (.ex (.va 1)), (.ex (.va 2)), (.ex (.va 3))] [.b] (.ite (.not (.va 21)) (.ret [(.bo (.co true))]) (.ret [(.bo (.co true))]))) (.ret [(.bo (.co false))]))) (.ret [(.bo (.co false))]))) (.ret [(.bo (.co false))])) (.ite (.eq (.va 9) (.va 3)) (.ask 18 [(.ex (.va 0)), (.ex (.va 1)), (.ex (.va 8)), (.ex (.va 9))] [.b] (.ite (.va 19) (.ask 18 [(.ex (.va 2)), (.ex (.va 3)), (.ex (.va 8)), (.ex (.va 9))] [.b] (.ite (.va 20) (.ask 18 [(.ex (.va 0)), (.ex (.va 1)), (.ex (.va 2)), (.ex (.va 3))] [.b] (.ite (.not (.va 21)) (.ret [(.bo (.co true))]) (.ret [(.bo (.co true))]))) (.ret [(.bo (.co false))]))) (.ret [(.bo (.co false))]))) (.ret [(.bo (.co false))]))) (.ret [(.bo (.co false))])) (.ite (.eq (.va 8) (.va 2)) (.ite (.eq (.va 9) (.va 1)) (.ite (.eq (.va 9) (.va 3)) (.ask 18 [(.ex (.va 0)), (.ex (.va 1)), (.ex (.va 8)), (.ex (.va 9))] [.b] (.ite (.va 19) (.ask 18 [(.ex (.va 2)), (.ex (.va 3)), (.ex (.va 8)), (.ex (.va 9))] [.b] (.ite (.va 20) (.ask 18 [(.ex (.va 0)), (.ex (.va 1)), (.ex (.va 2)), (.ex (.va 3))] [.b] (.ite (.not (.va 21)) (.ret [(.bo (.co true))]) (.ret [(.bo (.co true))]))) (.ret [(.bo (.co false))]))) (.ret [(.bo (.co false))]))) (.ret [(.bo (.co false))])) (.ite (.eq (.va 9) (.va 3)) (.ask 18 [(.ex (.va 0)), (.ex (.va 1)), (.ex (.va 8)), (.ex (.va 9))] [.b] (.ite (.va 19) (.ask 18 [(.ex (.va 2)), (.ex (.va 3)), (.ex (.va 8)), (.ex (.va 9))] [.b] (.ite (.va 20) (.ask 18 [(.ex (.va 0)), (.ex (.va 1)), (.ex (.va 2)), (.ex (.va 3))] [.b] (.ite (.not (.va 21)) (.ret [(.bo (.co true))]) (.ret [(.bo (.co true))]))) (.ret [(.bo (.co false))]))) (.ret [(.bo (.co false))]))) (.ret [(.bo (.co false))]))) (.ret [(.bo (.co false))]))))) (.ite (.eq (.va 8) (.va 0)) (.ite (.eq (.va 9) (.va 1)) (.ask 18 [(.ex (.va 0)), (.ex (.va 1)), (.ex (.va 8)), (.ex (.va 9))] [.b] (.ite (.va 18) (.ask 18 [(.ex (.va 2)), (.ex (.va 3)), (.ex (.va 8)), (.ex (.va 9))] [.b] (.ite (.va 19) (.ask 18 [(.ex (.va 0)), (.ex (.va 1)), (.ex (.va 2)), (.ex (.va 3))] [.b] (.ite (.not (.va 20)) (.ret [(.bo (.co true))]) (.ret [(.bo (.co true))]))) (.ret [(.bo (.co false))]))) (.ret [(.bo (.co false))]))) (.ite (.eq (.va 9) (.va 3)) (.ask 14 [(.ex (.va 2)), (.ex (.va 3))] [.b] (.ite (.not (.va 18)) (.ask 18 [(.ex (.va 0)), (.ex (.va 1)), (.ex (.va 8)), (.ex (.va 9))] [.b] (.ite (.va 19) (.ask 18 [(.ex (.va 2)), (.ex (.va 3)), (.ex (.va 8)), (.ex (.va 9))] [.b] (.ite (.va 20) (.ask 18 [(.ex (.va 0)), (.ex (.va 1)), (.ex (.va 2)), (.ex (.va 3))] [.b] (.ite (.not (.va 21)) (.ret [(.bo (.co true))]) (.ret [(.bo (.co true))]))) (.ret [(.bo (.co false))]))) (.ret [(.bo (.co false))]))) (.ret [(.bo (.co false))]))) (.ret [(.bo (.co false))]))) (.ite (.eq (.va 8) (.va 2)) (.ask 14 [(.ex (.va 2)), (.ex (.va 3))] [.b] (.ite (.not (.va 18)) (.ite (.eq (.va 9) (.va 1)) (.ask 18 [(.ex (.va 0)), (.ex (.va 1)), (.ex (.va 8)), (.ex (.va 9))] [.b] (.ite (.va 19) (.ask 18 [(.ex (.va 2)), (.ex (.va 3)), (.ex (.va 8)), (.ex (.va 9))] [.b] (.ite (.va 20) (.ask 18 [(.ex (.va 0)), (.ex (.va 1)), (.ex (.va 2)), (.ex (.va 3))] [.b] (.ite (.not (.va 21)) (.ret [(.bo (.co true))]) (.ret [(.bo (.co true))]))) (.ret [(.bo (.co false))]))) (.ret [(.bo (.co false))]))) (.ite (.eq (.va 9) (.va 3)) (.ask 18 [(.ex (.va 0)), (.ex (.va 1)), (.ex (.va 8)), (.ex (.va 9))] [.b] (.ite (.va 19) (.ask 18 [(.ex (.va 2)), (.ex (.va 3)), (.ex (.va 8)), (.ex (.va 9))] [.b] (.ite (.va 20) (.ask 18 [(.ex (.va 0)), (.ex (.va 1)), (.ex (.va 2)), (.ex (.va 3))] [.b] (.ite (.not (.va 21)) (.ret [(.bo (.co true))]) (.ret [(.bo (.co true))]))) (.ret [(.bo (.co false))]))) (.ret [(.bo (.co false))]))) (.ret [(.bo (.co false))]))) (.ret [(.bo (.co false))]))) (.ret [(.bo (.co false))])))))))))))))))))))))))
def gatherumlaw03_SpanTells.ra : Rw (Int × Int × Int × Int × Int) := (rwP rwI (rwP rwI (rwP rwI (rwP rwI rwI))))
def gatherumlaw03_SpanTells.rr : Rw (Bool) := rwB
theorem gatherumlaw03_SpanTells.rr_en (r : Bool) : gatherumlaw03_SpanTells.rr.en r = [.bool r] := rfl
def gatherumlaw03_SpanTells.f (a0_0 : Int) (a0_1 : Int) (a1_0 : Int) (a1_1 : Int) (a2 : Int) : Option (Bool) := ((gatherumlaw03_alive.f).bind fun b0 => (if (!b0) = true then some false else ((span_Meet.f a0_0 a0_1 a1_0 a1_1).bind fun b1 => ((span_Hull.f a0_0 a0_1 a1_0 a1_1).bind fun b2 => ((span_Has.f a0_0 a0_1 a2).bind fun b3 => ((gatherumlaw03_has.f a0_0 a0_1 a2).bind fun b4 => (if (!(b3 == b4)) = true then some false else ((span_Empty.f a0_0 a0_1).bind fun b5 => ((gatherumlaw03_empty.f a0_0 a0_1).bind fun b6 => (if (!(b5 == b6)) = true then some false else ((gatherumlaw03_has.f b1.1 b1.2 a2).bind fun b7 => (if b4 = true then ((gatherumlaw03_has.f a1_0 a1_1 a2).bind fun b8 => (if (!(b7 == b8)) = true then some false else ((gatherumlaw03_has.f b2.1 b2.2 a2).bind fun b9 => (if (!b9) = true then some false else ((gatherumlaw03_empty.f b1.1 b1.2).bind fun b10 => (if b10 = true then (if (!((b1.1 == 0) && (b1.2 == 0))) = true then some false else ((span_Apart.f a0_0 a0_1 a1_0 a1_1).bind fun b11 => (if (!(b11 == b10)) = true then some false else (if b6 = true then ((gatherumlaw03_empty.f a1_0 a1_1).bind fun b12 => (if b12 = true then some ((b2.1 == 0) && (b2.2 == 0)) else (if (b2.1 == a0_0) = true then (if (b2.1 == a1_0) = true then (if (b2.2 == a0_1) = true then (if (b2.2 == a1_1) = true then ((span_Within.f a0_0 a0_1 b2.1 b2.2).bind fun b13 => (if b13 = true then ((span_Within.f a1_0 a1_1 b2.1 b2.2).bind fun b14 => (if b14 = true then ((span_Within.f a0_0 a0_1 a1_0 a1_1).bind fun b15 => (if (!b15) = true then some true else some b8)) else some false)) else some false)) else some false) else (if (b2.2 == a1_1) = true then ((span_Within.f a0_0 a0_1 b2.1 b2.2).bind fun b13 => (if b13 = true then ((span_Within.f a1_0 a1_1 b2.1 b2.2).bind fun b14 => (if b14 = true then ((span_Within.f a0_0 a0_1 a1_0 a1_1).bind fun b15 => (if (!b15) = true then some true else some b8)) else some false)) else some false)) else some false)) else some false) else (if (b2.1 == a1_0) = true then (if (b2.2 == a0_1) = true then (if (b2.2 == a1_1) = true then ((span_Within.f a0_0 a0_1 b2.1 b2.2).bind fun b13 => (if b13 = true then ((span_Within.f a1_0 a1_1 b2.1 b2.2).bind fun b14 => (if b14 = true then ((span_Within.f a0_0 a0_1 a1_0 a1_1).bind fun b15 => (if (!b15) = true then some true else some b8)) else some false)) else some false)) else some false) else (if (b2.2 == a1_1) = true then ((span_Within.f a0_0 a0_1 b2.1 b2.2).bind fun b13 => (if b13 = true then ((span_Within.f a1_0 a1_1 b2.1 b2.2).bind fun b14 => (if b14 = true then ((span_Within.f a0_0 a0_1 a1_0 a1_1).bind fun b15 => (if (!b15) = true then some true else some b8)) else some false)) else some false)) else some false)) else some false)))) else (if (b2.1 == a0_0) = true then (if (b2.2 == a0_1) = true then ((span_Within.f a0_0 a0_1 b2.1 b2.2).bind fun b12 => (if b12 = true then ((span_Within.f a1_0 a1_1 b2.1 b2.2).bind fun b13 => (if b13 = true then ((span_Within.f a0_0 a0_1 a1_0 a1_1).bind fun b14 => (if (!b14) = true then some true else some b8)) else some false)) else some false)) else (if (b2.2 == a1_1) = true then ((gatherumlaw03_empty.f a1_0 a1_1).bind fun b12 => (if (!b12) = true then ((span_Within.f a0_0 a0_1 b2.1 b2.2).bind fun b13 => (if b13 = true then ((span_Within.f a1_0 a1_1 b2.1 b2.2).bind fun b14 => (if b14 = true then ((span_Within.f a0_0 a0_1 a1_0 a1_1).bind fun b15 => (if (!b15) = true then some true else some b8)) else some false)) else some false)) else some false)) else some false)) else (if (b2.1 == a1_0) = true then ((gatherumlaw03_empty.f a1_0 a1_1).bind fun b12 => (if (!b12) = true then (if (b2.2 == a0_1) = true then ((span_Within.f a0_0 a0_1 b2.1 b2.2).bind fun b13 => (if b13 = true then ((span_Within.f a1_0 a1_1 b2.1 b2.2).bind fun b14 => (if b14 = true then ((span_Within.f a0_0 a0_1 a1_0 a1_1).bind fun b15 => (if (!b15) = true then some true else some b8)) else some false)) else some false)) else (if (b2.2 == a1_1) = true then ((span_Within.f a0_0 a0_1 b2.1 b2.2).bind fun b13 => (if b13 = true then ((span_Within.f a1_0 a1_1 b2.1 b2.2).bind fun b14 => (if b14 = true then ((span_Within.f a0_0 a0_1 a1_0 a1_1).bind fun b15 => (if (!b15) = true then some true else some b8)) else some false)) else some false)) else some false)) else some false)) else some false)))))) else ((span_Apart.f a0_0 a0_1 a1_0 a1_1).bind fun b11 => (if (!(b11 == b10)) = true then some false else (if b6 = true then ((gatherumlaw03_empty.f a1_0 a1_1).bind fun b12 => (if b12 = true then some ((b2.1 == 0) && (b2.2 == 0)) else (if (b2.1 == a0_0) = true then (if (b2.1 == a1_0) = true then (if (b2.2 == a0_1) = true then (if (b2.2 == a1_1) = true then ((span_Within.f a0_0 a0_1 b2.1 b2.2).bind fun b13 => (if b13 = true then ((span_Within.f a1_0 a1_1 b2.1 b2.2).bind fun b14 => (if b14 = true then ((span_Within.f a0_0 a0_1 a1_0 a1_1).bind fun b15 => (if (!b15) = true then some true else some b8)) else some false)) else some false)) else some false) else (if (b2.2 == a1_1) = true then ((span_Within.f a0_0 a0_1 b2.1 b2.2).bind fun b13 => (if b13 = true then ((span_Within.f a1_0 a1_1 b2.1 b2.2).bind fun b14 => (if b14 = true then ((span_Within.f a0_0 a0_1 a1_0 a1_1).bind fun b15 => (if (!b15) = true then some true else some b8)) else some false)) else some false)) else some false)) else some false) else (if (b2.1 == a1_0) = true then (if (b2.2 == a0_1) = true then (if (b2.2 == a1_1) = true then ((span_Within.f a0_0 a0_1 b2.1 b2.2).bind fun b13 => (if b13 = true then ((span_Within.f a1_0 a1_1 b2.1 b2.2).bind fun b14 => (if b14 = true then ((span_Within.f a0_0 a0_1 a1_0 a1_1).bind fun b15 => (if (!b15) = true then some true else some b8)) else some false)) else some false)) else some false) else (if (b2.2 == a1_1) = true then ((span_Within.f a0_0 a0_1 b2.1 b2.2).bind fun b13 => (if b13 = true then ((span_Within.f a1_0 a1_1 b2.1 b2.2).bind fun b14 => (if b14 = true then ((span_Within.f a0_0 a0_1 a1_0 a1_1).bind fun b15 => (if (!b15) = true then some true else some b8)) else some false)) else some false)) else some false)) else some false)))) else (if (b2.1 == a0_0) = true then (if (b2.2 == a0_1) = true then ((span_Within.f a0_0 a0_1 b2.1 b2.2).bind fun b12 => (if b12 = true then ((span_Within.f a1_0 a1_1 b2.1 b2.2).bind fun b13 => (if b13 = true then ((span_Within.f a0_0 a0_1 a1_0 a1_1).bind fun b14 => (if (!b14) = true then some true else some b8)) else some false)) else some false)) else (if (b2.2 == a1_1) = true then ((gatherumlaw03_empty.f a1_0 a1_1).bind fun b12 => (if (!b12) = true then ((span_Within.f a0_0 a0_1 b2.1 b2.2).bind fun b13 => (if b13 = true then ((span_Within.f a1_0 a1_1 b2.1 b2.2).bind fun b14 => (if b14 = true then ((span_Within.f a0_0 a0_1 a1_0 a1_1).bind fun b15 => (if (!b15) = true then some true else some b8)) else some false)) else some false)) else some false)) else some false)) else (if (b2.1 == a1_0) = true then ((gatherumlaw03_empty.f a1_0 a1_1).bind fun b12 => (if (!b12) = true then (if (b2.2 == a0_1) = true then ((span_Within.f a0_0 a0_1 b2.1 b2.2).bind fun b13 => (if b13 = true then ((span_Within.f a1_0 a1_1 b2.1 b2.2).bind fun b14 => (if b14 = true then ((span_Within.f a0_0 a0_1 a1_0 a1_1).bind fun b15 => (if (!b15) = true then some true else some b8)) else some false)) else some false)) else (if (b2.2 == a1_1) = true then ((span_Within.f a0_0 a0_1 b2.1 b2.2).bind fun b13 => (if b13 = true then ((span_Within.f a1_0 a1_1 b2.1 b2.2).bind fun b14 => (if b14 = true then ((span_Within.f a0_0 a0_1 a1_0 a1_1).bind fun b15 => (if (!b15) = true then some true else some b8)) else some false)) else some false)) else some false)) else some false)) else some false))))))))))) else (if b7 = true then some false else ((gatherumlaw03_has.f a1_0 a1_1 a2).bind fun b8 => (if b8 = true then ((gatherumlaw03_has.f b2.1 b2.2 a2).bind fun b9 => (if (!b9) = true then some false else ((gatherumlaw03_empty.f b1.1 b1.2).bind fun b10 => (if b10 = true then (if (!((b1.1 == 0) && (b1.2 == 0))) = true then some false else ((span_Apart.f a0_0 a0_1 a1_0 a1_1).bind fun b11 => (if (!(b11 == b10)) = true then some false else (if b6 = true then ((gatherumlaw03_empty.f a1_0 a1_1).bind fun b12 => (if b12 = true then some ((b2.1 == 0) && (b2.2 == 0)) else (if (b2.1 == a0_0) = true then (if (b2.1 == a1_0) = true then (if (b2.2 == a0_1) = true then (if (b2.2 == a1_1) = true then ((span_Within.f a0_0 a0_1 b2.1 b2.2).bind fun b13 => (if b13 = true then ((span_Within.f a1_0 a1_1 b2.1 b2.2).bind fun b14 => (if b14 = true then ((span_Within.f a0_0 a0_1 a1_0 a1_1).bind fun b15 => (if (!b15) = true then some true else some true)) else some false)) else some false)) else some false) else (if (b2.2 == a1_1) = true then ((span_Within.f a0_0 a0_1 b2.1 b2.2).bind fun b13 => (if b13 = true then ((span_Within.f a1_0 a1_1 b2.1 b2.2).bind fun b14 => (if b14 = true then ((span_Within.f a0_0 a0_1 a1_0 a1_1).bind fun b15 => (if (!b15) = true then some true else some true)) else some false)) else some false)) else some false)) else some false) else (if (b2.1 == a1_0) = true then (if (b2.2 == a0_1) = true then (if (b2.2 == a1_1) = true then ((span_Within.f a0_0 a0_1 b2.1 b2.2).bind fun b13 => (if b13 = true then ((span_Within.f a1_0 a1_1 b2.1 b2.2).bind fun b14 => (if b14 = true then ((span_Within.f a0_0 a0_1 a1_0 a1_1).bind fun b15 => (if (!b15) = true then some true else some true)) else some false)) else some false)) else some false) else (if (b2.2 == a1_1) = true then ((span_Within.f a0_0 a0_1 b2.1 b2.2).bind fun b13 => (if b13 = true then ((span_Within.f a1_0 a1_1 b2.1 b2.2).bind fun b14 => (if b14 = true then ((span_Within.f a0_0 a0_1 a1_0 a1_1).bind fun b15 => (if (!b15) = true then some true else some true)) else some false)) else some false)) else some false)) else some false)))) else (if (b2.1 == a0_0) = true then (if (b2.2 == a0_1) = true then ((span_Within.f a0_0 a0_1 b2.1 b2.2).bind fun b12 => (if b12 = true then ((span_Within.f a1_0 a1_1 b2.1 b2.2).bind fun b13 => (if b13 = true then ((span_Within.f a0_0 a0_1 a1_0 a1_1).bind fun b14 => (if (!b14) = true then some true else some true)) else some false)) else some false)) else (if (b2.2 == a1_1) = true then ((gatherumlaw03_empty.f a1_0 a1_1).bind fun b12 => (if (!b12) = true then ((span_Within.f a0_0 a0_1 b2.1 b2.2).bind fun b13 => (if b13 = true then ((span_Within.f a1_0 a1_1 b2.1 b2.2).bind fun b14 => (if b14 = true then ((span_Within.f a0_0 a0_1 a1_0 a1_1).bind fun b15 => (if (!b15) = true then some true else some true)) else some false)) else some false)) else some false)) else some false)) else (if (b2.1 == a1_0) = true then ((gatherumlaw03_empty.f a1_0 a1_1).bind fun b12 => (if (!b12) = true then (if (b2.2 == a0_1) = true then ((span_Within.f a0_0 a0_1 b2.1 b2.2).bind fun b13 => (if b13 = true then ((span_Within.f a1_0 a1_1 b2.1 b2.2).bind fun b14 => (if b14 = true then ((span_Within.f a0_0 a0_1 a1_0 a1_1).bind fun b15 => (if (!b15) = true then some true else some true)) else some false)) else some false)) else (if (b2.2 == a1_1) = true then ((span_Within.f a0_0 a0_1 b2.1 b2.2).bind fun b13 => (if b13 = true then ((span_Within.f a1_0 a1_1 b2.1 b2.2).bind fun b14 => (if b14 = true then ((span_Within.f a0_0 a0_1 a1_0 a1_1).bind fun b15 => (if (!b15) = true then some true else some true)) else some false)) else some false)) else some false)) else some false)) else some false)))))) else ((span_Apart.f a0_0 a0_1 a1_0 a1_1).bind fun b11 => (if (!(b11 == b10)) = true then some false else (if b6 = true then ((gatherumlaw03_empty.f a1_0 a1_1).bind fun b12 => (if b12 = true then some ((b2.1 == 0) && (b2.2 == 0)) else (if (b2.1 == a0_0) = true then (if (b2.1 == a1_0) = true then (if (b2.2 == a0_1) = true then (if (b2.2 == a1_1) = true then ((span_Within.f a0_0 a0_1 b2.1 b2.2).bind fun b13 => (if b13 = true then ((span_Within.f a1_0 a1_1 b2.1 b2.2).bind fun b14 => (if b14 = true then ((span_Within.f a0_0 a0_1 a1_0 a1_1).bind fun b15 => (if (!b15) = true then some true else some true)) else some false)) else some false)) else some false) else (if (b2.2 == a1_1) = true then ((span_Within.f a0_0 a0_1 b2.1 b2.2).bind fun b13 => (if b13 = true then ((span_Within.f a1_0 a1_1 b2.1 b2.2).bind fun b14 => (if b14 = true then ((span_Within.f a0_0 a0_1 a1_0 a1_1).bind fun b15 => (if (!b15) = true then some true else some true)) else some false)) else some false)) else some false)) else some false) else (if (b2.1 == a1_0) = true then (if (b2.2 == a0_1) = true then (if (b2.2 == a1_1) = true then ((span_Within.f a0_0 a0_1 b2.1 b2.2).bind fun b13 => (if b13 = true then ((span_Within.f a1_0 a1_1 b2.1 b2.2).bind fun b14 => (if b14 = true then ((span_Within.f a0_0 a0_1 a1_0 a1_1).bind fun b15 => (if (!b15) = true then some true else some true)) else some false)) else some false)) else some false) else (if (b2.2 == a1_1) = true then ((span_Within.f a0_0 a0_1 b2.1 b2.2).bind fun b13 => (if b13 = true then ((span_Within.f a1_0 a1_1 b2.1 b2.2).bind fun b14 => (if b14 = true then ((span_Within.f a0_0 a0_1 a1_0 a1_1).bind fun b15 => (if (!b15) = true then some true else some true)) else some false)) else some false)) else some false)) else some false)))) else (if (b2.1 == a0_0) = true then (if (b2.2 == a0_1) = true then ((span_Within.f a0_0 a0_1 b2.1 b2.2).bind fun b12 => (if b12 = true then ((span_Within.f a1_0 a1_1 b2.1 b2.2).bind fun b13 => (if b13 = true then ((span_Within.f a0_0 a0_1 a1_0 a1_1).bind fun b14 => (if (!b14) = true then some true else some true)) else some false)) else some false)) else (if (b2.2 == a1_1) = true then ((gatherumlaw03_empty.f a1_0 a1_1).bind fun b12 => (if (!b12) = true then ((span_Within.f a0_0 a0_1 b2.1 b2.2).bind fun b13 => (if b13 = true then ((span_Within.f a1_0 a1_1 b2.1 b2.2).bind fun b14 => (if b14 = true then ((span_Within.f a0_0 a0_1 a1_0 a1_1).bind fun b15 => (if (!b15) = true then some true else some true)) else some false)) else some false)) else some false)) else some false)) else (if (b2.1 == a1_0) = true then ((gatherumlaw03_empty.f a1_0 a1_1).bind fun b12 => (if (!b12) = true then (if (b2.2 == a0_1) = true then ((span_Within.f a0_0 a0_1 b2.1 b2.2).bind fun b13 => (if b13 = true then ((span_Within.f a1_0 a1_1 b2.1 b2.2).bind fun b14 => (if b14 = true then ((span_Within.f a0_0 a0_1 a1_0 a1_1).bind fun b15 => (if (!b15) = true then some true else some true)) else some false)) else some false)) else (if (b2.2 == a1_1) = true then ((span_Within.f a0_0 a0_1 b2.1 b2.2).bind fun b13 => (if b13 = true then ((span_Within.f a1_0 a1_1 b2.1 b2.2).bind fun b14 => (if b14 = true then ((span_Within.f a0_0 a0_1 a1_0 a1_1).bind fun b15 => (if (!b15) = true then some true else some true)) else some false)) else some false)) else some false)) else some false)) else some false))))))))) else ((gatherumlaw03_empty.f b1.1 b1.2).bind fun b9 => (if b9 = true then (if (!((b1.1 == 0) && (b1.2 == 0))) = true then some false else ((span_Apart.f a0_0 a0_1 a1_0 a1_1).bind fun b10 => (if (!(b10 == b9)) = true then some false else (if b6 = true then ((gatherumlaw03_empty.f a1_0 a1_1).bind fun b11 => (if b11 = true then some ((b2.1 == 0) && (b2.2 == 0)) else (if (b2.1 == a0_0) = true then (if (b2.1 == a1_0) = true then (if (b2.2 == a0_1) = true then (if (b2.2 == a1_1) = true then ((span_Within.f a0_0 a0_1 b2.1 b2.2).bind fun b12 => (if b12 = true then ((span_Within.f a1_0 a1_1 b2.1 b2.2).bind fun b13 => (if b13 = true then ((span_Within.f a0_0 a0_1 a1_0 a1_1).bind fun b14 => (if (!b14) = true then some true else some true)) else some false)) else some false)) else some false) else (if (b2.2 == a1_1) = true then ((span_Within.f a0_0 a0_1 b2.1 b2.2).bind fun b12 => (if b12 = true then ((span_Within.f a1_0 a1_1 b2.1 b2.2).bind fun b13 => (if b13 = true then ((span_Within.f a0_0 a0_1 a1_0 a1_1).bind fun b14 => (if (!b14) = true then some true else some true)) else some false)) else some false)) else some false)) else some false) else (if (b2.1 == a1_0) = true then (if (b2.2 == a0_1) = true then (if (b2.2 == a1_1) = true then ((span_Within.f a0_0 a0_1 b2.1 b2.2).bind fun b12 => (if b12 = true then ((span_Within.f a1_0 a1_1 b2.1 b2.2).bind fun b13 => (if b13 = true then ((span_Within.f a0_0 a0_1 a1_0 a1_1).bind fun b14 => (if (!b14) = true then some true else some true)) else some false)) else some false)) else some false) else (if (b2.2 == a1_1) = true then ((span_Within.f a0_0 a0_1 b2.1 b2.2).bind fun b12 => (if b12 = true then ((span_Within.f a1_0 a1_1 b2.1 b2.2).bind fun b13 => (if b13 = true then ((span_Within.f a0_0 a0_1 a1_0 a1_1).bind fun b14 => (if (!b14) = true then some true else some true)) else some false)) else some false)) else some false)) else some false)))) else (if (b2.1 == a0_0) = true then (if (b2.2 == a0_1) = true then ((span_Within.f a0_0 a0_1 b2.1 b2.2).bind fun b11 => (if b11 = true then ((span_Within.f a1_0 a1_1 b2.1 b2.2).bind fun b12 => (if b12 = true then ((span_Within.f a0_0 a0_1 a1_0 a1_1).bind fun b13 => (if (!b13) = true then some true else some true)) else some false)) else some false)) else (if (b2.2 == a1_1) = true then ((gatherumlaw03_empty.f a1_0 a1_1).bind fun b11 => (if (!b11) = true then ((span_Within.f a0_0 a0_1 b2.1 b2.2).bind fun b12 => (if b12 = true then ((span_Within.f a1_0 a1_1 b2.1 b2.2).bind fun b13 => (if b13 = true then ((span_Within.f a0_0 a0_1 a1_0 a1_1).bind fun b14 => (if (!b14) = true then some true else some true)) else some false)) else some false)) else some false)) else some false)) else (if (b2.1 == a1_0) = true then ((gatherumlaw03_empty.f a1_0 a1_1).bind fun b11 => (if (!b11) = true then (if (b2.2 == a0_1) = true then ((span_Within.f a0_0 a0_1 b2.1 b2.2).bind fun b12 => (if b12 = true then ((span_Within.f a1_0 a1_1 b2.1 b2.2).bind fun b13 => (if b13 = true then ((span_Within.f a0_0 a0_1 a1_0 a1_1).bind fun b14 => (if (!b14) = true then some true else some true)) else some false)) else some false)) else (if (b2.2 == a1_1) = true then ((span_Within.f a0_0 a0_1 b2.1 b2.2).bind fun b12 => (if b12 = true then ((span_Within.f a1_0 a1_1 b2.1 b2.2).bind fun b13 => (if b13 = true then ((span_Within.f a0_0 a0_1 a1_0 a1_1).bind fun b14 => (if (!b14) = true then some true else some true)) else some false)) else some false)) else some false)) else some false)) else some false)))))) else ((span_Apart.f a0_0 a0_1 a1_0 a1_1).bind fun b10 => (if (!(b10 == b9)) = true then some false else (if b6 = true then ((gatherumlaw03_empty.f a1_0 a1_1).bind fun b11 => (if b11 = true then some ((b2.1 == 0) && (b2.2 == 0)) else (if (b2.1 == a0_0) = true then (if (b2.1 == a1_0) = true then (if (b2.2 == a0_1) = true then (if (b2.2 == a1_1) = true then ((span_Within.f a0_0 a0_1 b2.1 b2.2).bind fun b12 => (if b12 = true then ((span_Within.f a1_0 a1_1 b2.1 b2.2).bind fun b13 => (if b13 = true then ((span_Within.f a0_0 a0_1 a1_0 a1_1).bind fun b14 => (if (!b14) = true then some true else some true)) else some false)) else some false)) else some false) else (if (b2.2 == a1_1) = true then ((span_Within.f a0_0 a0_1 b2.1 b2.2).bind fun b12 => (if b12 = true then ((span_Within.f a1_0 a1_1 b2.1 b2.2).bind fun b13 => (if b13 = true then ((span_Within.f a0_0 a0_1 a1_0 a1_1).bind fun b14 => (if (!b14) = true then some true else some true)) else some false)) else some false)) else some false)) else some false) else (if (b2.1 == a1_0) = true then (if (b2.2 == a0_1) = true then (if (b2.2 == a1_1) = true then ((span_Within.f a0_0 a0_1 b2.1 b2.2).bind fun b12 => (if b12 = true then ((span_Within.f a1_0 a1_1 b2.1 b2.2).bind fun b13 => (if b13 = true then ((span_Within.f a0_0 a0_1 a1_0 a1_1).bind fun b14 => (if (!b14) = true then some true else some true)) else some false)) else some false)) else some false) else (if (b2.2 == a1_1) = true then ((span_Within.f a0_0 a0_1 b2.1 b2.2).bind fun b12 => (if b12 = true then ((span_Within.f a1_0 a1_1 b2.1 b2.2).bind fun b13 => (if b13 = true then ((span_Within.f a0_0 a0_1 a1_0 a1_1).bind fun b14 => (if (!b14) = true then some true else some true)) else some false)) else some false)) else some false)) else some false)))) else (if (b2.1 == a0_0) = true then (if (b2.2 == a0_1) = true then ((span_Within.f a0_0 a0_1 b2.1 b2.2).bind fun b11 => (if b11 = true then ((span_Within.f a1_0 a1_1 b2.1 b2.2).bind fun b12 => (if b12 = true then ((span_Within.f a0_0 a0_1 a1_0 a1_1).bind fun b13 => (if (!b13) = true then some true else some true)) else some false)) else some false)) else (if (b2.2 == a1_1) = true then ((gatherumlaw03_empty.f a1_0 a1_1).bind fun b11 => (if (!b11) = true then ((span_Within.f a0_0 a0_1 b2.1 b2.2).bind fun b12 => (if b12 = true then ((span_Within.f a1_0 a1_1 b2.1 b2.2).bind fun b13 => (if b13 = true then ((span_Within.f a0_0 a0_1 a1_0 a1_1).bind fun b14 => (if (!b14) = true then some true else some true)) else some false)) else some false)) else some false)) else some false)) else (if (b2.1 == a1_0) = true then ((gatherumlaw03_empty.f a1_0 a1_1).bind fun b11 => (if (!b11) = true then (if (b2.2 == a0_1) = true then ((span_Within.f a0_0 a0_1 b2.1 b2.2).bind fun b12 => (if b12 = true then ((span_Within.f a1_0 a1_1 b2.1 b2.2).bind fun b13 => (if b13 = true then ((span_Within.f a0_0 a0_1 a1_0 a1_1).bind fun b14 => (if (!b14) = true then some true else some true)) else some false)) else some false)) else (if (b2.2 == a1_1) = true then ((span_Within.f a0_0 a0_1 b2.1 b2.2).bind fun b12 => (if b12 = true then ((span_Within.f a1_0 a1_1 b2.1 b2.2).bind fun b13 => (if b13 = true then ((span_Within.f a0_0 a0_1 a1_0 a1_1).bind fun b14 => (if (!b14) = true then some true else some true)) else some false)) else some false)) else some false)) else some false)) else some false))))))))))))))))))))))
def gatherumlaw03_SpanTells.app : App := fun ps => (gatherumlaw03_SpanTells.ra.de ps).bind fun x => (gatherumlaw03_SpanTells.f x.1 x.2.1 x.2.2.1 x.2.2.2.1 x.2.2.2.2).map gatherumlaw03_SpanTells.rr.en
theorem gatherumlaw03_SpanTells.ap (a0_0 : Int) (a0_1 : Int) (a1_0 : Int) (a1_1 : Int) (a2 : Int) : gatherumlaw03_SpanTells.app [.int a0_0, .int a0_1, .int a1_0, .int a1_1, .int a2] = (gatherumlaw03_SpanTells.f a0_0 a0_1 a1_0 a1_1 a2).map gatherumlaw03_SpanTells.rr.en := app_ap gatherumlaw03_SpanTells.ra gatherumlaw03_SpanTells.rr (fun x => gatherumlaw03_SpanTells.f x.1 x.2.1 x.2.2.1 x.2.2.2.1 x.2.2.2.2) (a0_0, a0_1, a1_0, a1_1, a2)
theorem gatherumlaw03_SpanTells.is : FnIs Try.prog 6 (.init gatherumlaw03_SpanTells.sg) gatherumlaw03_SpanTells.t gatherumlaw03_SpanTells.cf := ⟨Try.f6, gatherumlaw03_SpanTells.body, 6000, Try.func6, by kernel_rfl, rfl, rfl, by decide +kernel, by kernel_rfl⟩
theorem gatherumlaw03_SpanTells.den (F : FnE) (K : Nat) (h12 : F 12 = gatherumlaw03_alive.app) (h14 : F 14 = gatherumlaw03_empty.app) (h17 : F 17 = gatherumlaw03_has.app) (h18 : F 18 = span_Within.app) (h19 : F 19 = span_Meet.app) (h20 : F 20 = span_Hull.app) (h21 : F 21 = span_Has.app) (h22 : F 22 = span_Empty.app) (h23 : F 23 = span_Apart.app) (a0_0 : Int) (a0_1 : Int) (a1_0 : Int) (a1_1 : Int) (a2 : Int) : Sy.den F K gatherumlaw03_SpanTells.t [] [.int a0_0, .int a0_1, .int a1_0, .int a1_1, .int a2] = (gatherumlaw03_SpanTells.f a0_0 a0_1 a1_0 a1_1 a2).map gatherumlaw03_SpanTells.rr.en := by
  unfold gatherumlaw03_SpanTells.t gatherumlaw03_SpanTells.f
  refine den_ask (ps := []) (rr := gatherumlaw03_alive.rr) (G := gatherumlaw03_alive.f) (by rw [h12]; exact gatherumlaw03_alive.ap) rfl rfl fun b0 => ?_
  show Sy.den F K _ _ [.int a0_0, .int a0_1, .int a1_0, .int a1_1, .int a2, .bool b0] = _
  refine den_ite (b := (!b0)) rfl ?_ ?_
  exact den_ret rfl
  refine den_ask (ps := [.int a0_0, .int a0_1, .int a1_0, .int a1_1]) (rr := span_Meet.rr) (G := span_Meet.f a0_0 a0_1 a1_0 a1_1) (by rw [h19]; exact span_Meet.ap a0_0 a0_1 a1_0 a1_1) rfl rfl fun b1 => ?_
  show Sy.den F K _ _ [.int a0_0, .int a0_1, .int a1_0, .int a1_1, .int a2, .bool b0, .int b1.1, .int b1.2] = _
  refine den_ask (ps := [.int a0_0, .int a0_1, .int a1_0, .int a1_1]) (rr := span_Hull.rr) (G := span_Hull.f a0_0 a0_1 a1_0 a1_1) (by rw [h20]; exact span_Hull.ap a0_0 a0_1 a1_0 a1_1) rfl rfl fun b2 => ?_
  show Sy.den F K _ _ [.int a0_0, .int a0_1, .int a1_0, .int a1_1, .int a2, .bool b0, .int b1.1, .int b1.2, .int b2.1, .int b2.2] = _
  refine den_ask (ps := [.int a0_0, .int a0_1, .int a2]) (rr := span_Has.rr) (G := span_Has.f a0_0 a0_1 a2) (by rw [h21]; exact span_Has.ap a0_0 a0_1 a2) rfl rfl fun b3 => ?_
  show Sy.den F K _ _ [.int a0_0, .int a0_1, .int a1_0, .int a1_1, .int a2, .bool b0, .int b1.1, .int b1.2, .int b2.1, .int b2.2, .bool b3] = _
  refine den_ask (ps := [.int a0_0, .int a0_1, .int a2]) (rr := gatherumlaw03_has.rr) (G := gatherumlaw03_has.f a0_0 a0_1 a2) (by rw [h17]; exact gatherumlaw03_has.ap a0_0 a0_1 a2) rfl rfl fun b4 => ?_
  show Sy.den F K _ _ [.int a0_0, .int a0_1, .int a1_0, .int a1_1, .int a2, .bool b0, .int b1.1, .int b1.2, .int b2.1, .int b2.2, .bool b3, .bool b4] = _
  refine den_ite (b := (!(b3 == b4))) rfl ?_ ?_
  exact den_ret rfl
  refine den_ask (ps := [.int a0_0, .int a0_1]) (rr := span_Empty.rr) (G := span_Empty.f a0_0 a0_1) (by rw [h22]; exact span_Empty.ap a0_0 a0_1) rfl rfl fun b5 => ?_
  show Sy.den F K _ _ [.int a0_0, .int a0_1, .int a1_0, .int a1_1, .int a2, .bool b0, .int b1.1, .int b1.2, .int b2.1, .int b2.2, .bool b3, .bool b4, .bool b5] = _
  refine den_ask (ps := [.int a0_0, .int a0_1]) (rr := gatherumlaw03_empty.rr) (G := gatherumlaw03_empty.f a0_0 a0_1) (by rw [h14]; exact gatherumlaw03_empty.ap a0_0 a0_1) rfl rfl fun b6 => ?_
  show Sy.den F K _ _ [.int a0_0, .int a0_1, .int a1_0, .int a1_1, .int a2, .bool b0, .int b1.1, .int b1.2, .int b2.1, .int b2.2, .bool b3, .bool b4, .bool b5, .bool b6] = _
  refine den_ite (b := (!(b5 == b6))) rfl ?_ ?_
  exact den_ret rfl
  refine den_ask (ps := [.int b1.1, .int b1.2, .int a2]) (rr := gatherumlaw03_has.rr) (G := gatherumlaw03_has.f b1.1 b1.2 a2) (by rw [h17]; exact gatherumlaw03_has.ap b1.1 b1.2 a2) rfl rfl fun b7 => ?_
  show Sy.den F K _ _ [.int a0_0, .int a0_1, .int a1_0, .int a1_1, .int a2, .bool b0, .int b1.1, .int b1.2, .int b2.1, .int b2.2, .bool b3, .bool b4, .bool b5, .bool b6, .bool b7] = _
  refine den_ite (b := b4) rfl ?_ ?_
  refine den_ask (ps := [.int a1_0, .int a1_1, .int a2]) (rr := gatherumlaw03_has.rr) (G := gatherumlaw03_has.f a1_0 a1_1 a2) (by rw [h17]; exact gatherumlaw03_has.ap a1_0 a1_1 a2) rfl rfl fun b8 => ?_
  show Sy.den F K _ _ [.int a0_0, .int a0_1, .int a1_0, .int a1_1, .int a2, .bool b0, .int b1.1, .int b1.2, .int b2.1, .int b2.2, .bool b3, .bool b4, .bool b5, .bool b6, .bool b7, .bool b8] = _
  refine den_ite (b := (!(b7 == b8))) rfl ?_ ?_
  exact den_ret rfl
  refine den_ask (ps := [.int b2.1, .int b2.2, .int a2]) (rr := gatherumlaw03_has.rr) (G := gatherumlaw03_has.f b2.1 b2.2 a2) (by rw [h17]; exact gatherumlaw03_has.ap b2.1 b2.2 a2) rfl rfl fun b9 => ?_
  show Sy.den F K _ _ [.int a0_0, .int a0_1, .int a1_0, .int a1_1, .int a2, .bool b0, .int b1.1, .int b1.2, .int b2.1, .int b2.2, .bool b3, .bool b4, .bool b5, .bool b6, .bool b7, .bool b8, .bool b9] = _
  refine den_ite (b := (!b9)) rfl ?_ ?_
  exact den_ret rfl
  refine den_ask (ps := [.int b1.1, .int b1.2]) (rr := gatherumlaw03_empty.rr) (G := gatherumlaw03_empty.f b1.1 b1.2) (by rw [h14]; exact gatherumlaw03_empty.ap b1.1 b1.2) rfl rfl fun b10 => ?_
  show Sy.den F K _ _ [.int a0_0, .int a0_1, .int a1_0, .int a1_1, .int a2, .bool b0, .int b1.1, .int b1.2, .int b2.1, .int b2.2, .bool b3, .bool b4, .bool b5, .bool b6, .bool b7, .bool b8, .bool b9, .bool b10] = _
  refine den_ite (b := b10) rfl ?_ ?_
  refine den_ite (b := (!((b1.1 == 0) && (b1.2 == 0)))) rfl ?_ ?_
  exact den_ret rfl
  refine den_ask (ps := [.int a0_0, .int a0_1, .int a1_0, .int a1_1]) (rr := span_Apart.rr) (G := span_Apart.f a0_0 a0_1 a1_0 a1_1) (by rw [h23]; exact span_Apart.ap a0_0 a0_1 a1_0 a1_1) rfl rfl fun b11 => ?_
  show Sy.den F K _ _ [.int a0_0, .int a0_1, .int a1_0, .int a1_1, .int a2, .bool b0, .int b1.1, .int b1.2, .int b2.1, .int b2.2, .bool b3, .bool b4, .bool b5, .bool b6, .bool b7, .bool b8, .bool b9, .bool b10, .bool b11] = _
  refine den_ite (b := (!(b11 == b10))) rfl ?_ ?_
  exact den_ret rfl
  refine den_ite (b := b6) rfl ?_ ?_
  refine den_ask (ps := [.int a1_0, .int a1_1]) (rr := gatherumlaw03_empty.rr) (G := gatherumlaw03_empty.f a1_0 a1_1) (by rw [h14]; exact gatherumlaw03_empty.ap a1_0 a1_1) rfl rfl fun b12 => ?_
  show Sy.den F K _ _ [.int a0_0, .int a0_1, .int a1_0, .int a1_1, .int a2, .bool b0, .int b1.1, .int b1.2, .int b2.1, .int b2.2, .bool b3, .bool b4, .bool b5, .bool b6, .bool b7, .bool b8, .bool b9, .bool b10, .bool b11, .bool b12] = _
  refine den_ite (b := b12) rfl ?_ ?_
  exact den_ret rfl
  refine den_ite (b := (b2.1 == a0_0)) rfl ?_ ?_
  refine den_ite (b := (b2.1 == a1_0)) rfl ?_ ?_
  refine den_ite (b := (b2.2 == a0_1)) rfl ?_ ?_
  refine den_ite (b := (b2.2 == a1_1)) rfl ?_ ?_
  refine den_ask (ps := [.int a0_0, .int a0_1, .int b2.1, .int b2.2]) (rr := span_Within.rr) (G := span_Within.f a0_0 a0_1 b2.1 b2.2) (by rw [h18]; exact span_Within.ap a0_0 a0_1 b2.1 b2.2) rfl rfl fun b13 => ?_
  show Sy.den F K _ _ [.int a0_0, .int a0_1, .int a1_0, .int a1_1, .int a2, .bool b0, .int b1.1, .int b1.2, .int b2.1, .int b2.2, .bool b3, .bool b4, .bool b5, .bool b6, .bool b7, .bool b8, .bool b9, .bool b10, .bool b11, .bool b12, .bool b13] = _
  refine den_ite (b := b13) rfl ?_ ?_
  refine den_ask (ps := [.int a1_0, .int a1_1, .int b2.1, .int b2.2]) (rr := span_Within.rr) (G := span_Within.f a1_0 a1_1 b2.1 b2.2) (by rw [h18]; exact span_Within.ap a1_0 a1_1 b2.1 b2.2) rfl rfl fun b14 => ?_
  show Sy.den F K _ _ [.int a0_0, .int a0_1, .int a1_0, .int a1_1, .int a2, .bool b0, .int b1.1, .int b1.2, .int b2.1, .int b2.2, .bool b3, .bool b4, .bool b5, .bool b6, .bool b7, .bool b8, .bool b9, .bool b10, .bool b11, .bool b12, .bool b13, .bool b14] = _
  refine den_ite (b := b14) rfl ?_ ?_
  refine den_ask (ps := [.int a0_0, .int a0_1, .int a1_0, .int a1_1]) (rr := span_Within.rr) (G := span_Within.f a0_0 a0_1 a1_0 a1_1) (by rw [h18]; exact span_Within.ap a0_0 a0_1 a1_0 a1_1) rfl rfl fun b15 => ?_
  show Sy.den F K _ _ [.int a0_0, .int a0_1, .int a1_0, .int a1_1, .int a2, .bool b0, .int b1.1, .int b1.2, .int b2.1, .int b2.2, .bool b3, .bool b4, .bool b5, .bool b6, .bool b7, .bool b8, .bool b9, .bool b10, .bool b11, .bool b12, .bool b13, .bool b14, .bool b15] = _
  refine den_ite (b := (!b15)) rfl ?_ ?_
  exact den_ret rfl
  exact den_ret rfl
  exact den_ret rfl
  exact den_ret rfl
  exact den_ret rfl
  refine den_ite (b := (b2.2 == a1_1)) rfl ?_ ?_
  refine den_ask (ps := [.int a0_0, .int a0_1, .int b2.1, .int b2.2]) (rr := span_Within.rr) (G := span_Within.f a0_0 a0_1 b2.1 b2.2) (by rw [h18]; exact span_Within.ap a0_0 a0_1 b2.1 b2.2) rfl rfl fun b13 => ?_
  show Sy.den F K _ _ [.int a0_0, .int a0_1, .int a1_0, .int a1_1, .int a2, .bool b0, .int b1.1, .int b1.2, .int b2.1, .int b2.2, .bool b3, .bool b4, .bool b5, .bool b6, .bool b7, .bool b8, .bool b9, .bool b10, .bool b11, .bool b12, .bool b13] = _
  refine den_ite (b := b13) rfl ?_ ?_
  refine den_ask (ps := [.int a1_0, .int a1_1, .int b2.1, .int b2.2]) (rr := span_Within.rr) (G := span_Within.f a1_0 a1_1 b2.1 b2.2) (by rw [h18]; exact span_Within.ap a1_0 a1_1 b2.1 b2.2) rfl rfl fun b14 => ?_
  show Sy.den F K _ _ [.int a0_0, .int a0_1, .int a1_0, .int a1_1, .int a2, .bool b0, .int b1.1, .int b1.2, .int b2.1, .int b2.2, .bool b3, .bool b4, .bool b5, .bool b6, .bool b7, .bool b8, .bool b9, .bool b10, .bool b11, .bool b12, .bool b13, .bool b14] = _
  refine den_ite (b := b14) rfl ?_ ?_
  refine den_ask (ps := [.int a0_0, .int a0_1, .int a1_0, .int a1_1]) (rr := span_Within.rr) (G := span_Within.f a0_0 a0_1 a1_0 a1_1) (by rw [h18]; exact span_Within.ap a0_0 a0_1 a1_0 a1_1) rfl rfl fun b15 => ?_
  show Sy.den F K _ _ [.int a0_0, .int a0_1, .int a1_0, .int a1_1, .int a2, .bool b0, .int b1.1, .int b1.2, .int b2.1, .int b2.2, .bool b3, .bool b4, .bool b5, .bool b6, .bool b7, .bool b8, .bool b9, .bool b10, .bool b11, .bool b12, .bool b13, .bool b14, .bool b15] = _
  refine den_ite (b := (!b15)) rfl ?_ ?_
  exact den_ret rfl
  exact den_ret rfl
  exact den_ret rfl
  exact den_ret rfl
  exact den_ret rfl
  exact den_ret rfl
  refine den_ite (b := (b2.1 == a1_0)) rfl ?_ ?_
  refine den_ite (b := (b2.2 == a0_1)) rfl ?_ ?_
  refine den_ite (b := (b2.2 == a1_1)) rfl ?_ ?_
  refine den_ask (ps := [.int a0_0, .int a0_1, .int b2.1, .int b2.2]) (rr := span_Within.rr) (G := span_Within.f a0_0 a0_1 b2.1 b2.2) (by rw [h18]; exact span_Within.ap a0_0 a0_1 b2.1 b2.2) rfl rfl fun b13 => ?_
  show Sy.den F K _ _ [.int a0_0, .int a0_1, .int a1_0, .int a1_1, .int a2, .bool b0, .int b1.1, .int b1.2, .int b2.1, .int b2.2, .bool b3, .bool b4, .bool b5, .bool b6, .bool b7, .bool b8, .bool b9, .bool b10, .bool b11, .bool b12, .bool b13] = _
  refine den_ite (b := b13) rfl ?_ ?_
  refine den_ask (ps := [.int a1_0, .int a1_1, .int b2.1, .int b2.2]) (rr := span_Within.rr) (G := span_Within.f a1_0 a1_1 b2.1 b2.2) (by rw [h18]; exact span_Within.ap a1_0 a1_1 b2.1 b2.2) rfl rfl fun b14 => ?_
  show Sy.den F K _ _ [.int a0_0, .int a0_1, .int a1_0, .int a1_1, .int a2, .bool b0, .int b1.1, .int b1.2, .int b2.1, .int b2.2, .bool b3, .bool b4, .bool b5, .bool b6, .bool b7, .bool b8, .bool b9, .bool b10, .bool b11, .bool b12, .bool b13, .bool b14] = _
  refine den_ite (b := b14) rfl ?_ ?_
  refine den_ask (ps := [.int a0_0, .int a0_1, .int a1_0, .int a1_1]) (rr := span_Within.rr) (G := span_Within.f a0_0 a0_1 a1_0 a1_1) (by rw [h18]; exact span_Within.ap a0_0 a0_1 a1_0 a1_1) rfl rfl fun b15 => ?_
  show Sy.den F K _ _ [.int a0_0, .int a0_1, .int a1_0, .int a1_1, .int a2, .bool b0, .int b1.1, .int b1.2, .int b2.1, .int b2.2, .bool b3, .bool b4, .bool b5, .bool b6, .bool b7, .bool b8, .bool b9, .bool b10, .bool b11, .bool b12, .bool b13, .bool b14, .bool b15] = _
  refine den_ite (b := (!b15)) rfl ?_ ?_
  exact den_ret rfl
  exact den_ret rfl
  exact den_ret rfl
  exact den_ret rfl
  exact den_ret rfl
  refine den_ite (b := (b2.2 == a1_1)) rfl ?_ ?_
  refine den_ask (ps := [.int a0_0, .int a0_1, .int b2.1, .int b2.2]) (rr := span_Within.rr) (G := span_Within.f a0_0 a0_1 b2.1 b2.2) (by rw [h18]; exact span_Within.ap a0_0 a0_1 b2.1 b2.2) rfl rfl fun b13 => ?_
  show Sy.den F K _ _ [.int a0_0, .int a0_1, .int a1_0, .int a1_1, .int a2, .bool b0, .int b1.1, .int b1.2, .int b2.1, .int b2.2, .bool b3, .bool b4, .bool b5, .bool b6, .bool b7, .bool b8, .bool b9, .bool b10, .bool b11, .bool b12, .bool b13] = _
  refine den_ite (b := b13) rfl ?_ ?_
  refine den_ask (ps := [.int a1_0, .int a1_1, .int b2.1, .int b2.2]) (rr := span_Within.rr) (G := span_Within.f a1_0 a1_1 b2.1 b2.2) (by rw [h18]; exact span_Within.ap a1_0 a1_1 b2.1 b2.2) rfl rfl fun b14 => ?_
  show Sy.den F K _ _ [.int a0_0, .int a0_1, .int a1_0, .int a1_1, .int a2, .bool b0, .int b1.1, .int b1.2, .int b2.1, .int b2.2, .bool b3, .bool b4, .bool b5, .bool b6, .bool b7, .bool b8, .bool b9, .bool b10, .bool b11, .bool b12, .bool b13, .bool b14] = _
  refine den_ite (b := b14) rfl ?_ ?_
  refine den_ask (ps := [.int a0_0, .int a0_1, .int a1_0, .int a1_1]) (rr := span_Within.rr) (G := span_Within.f a0_0 a0_1 a1_0 a1_1) (by rw [h18]; exact span_Within.ap a0_0 a0_1 a1_0 a1_1) rfl rfl fun b15 => ?_
  show Sy.den F K _ _ [.int a0_0, .int a0_1, .int a1_0, .int a1_1, .int a2, .bool b0, .int b1.1, .int b1.2, .int b2.1, .int b2.2, .bool b3, .bool b4, .bool b5, .bool b6, .bool b7, .bool b8, .bool b9, .bool b10, .bool b11, .bool b12, .bool b13, .bool b14, .bool b15] = _
  refine den_ite (b := (!b15)) rfl ?_ ?_
  exact den_ret rfl
  exact den_ret rfl
  exact den_ret rfl
  exact den_ret rfl
  exact den_ret rfl
  exact den_ret rfl
  refine den_ite (b := (b2.1 == a0_0)) rfl ?_ ?_
  refine den_ite (b := (b2.2 == a0_1)) rfl ?_ ?_
  refine den_ask (ps := [.int a0_0, .int a0_1, .int b2.1, .int b2.2]) (rr := span_Within.rr) (G := span_Within.f a0_0 a0_1 b2.1 b2.2) (by rw [h18]; exact span_Within.ap a0_0 a0_1 b2.1 b2.2) rfl rfl fun b12 => ?_
  show Sy.den F K _ _ [.int a0_0, .int a0_1, .int a1_0, .int a1_1, .int a2, .bool b0, .int b1.1, .int b1.2, .int b2.1, .int b2.2, .bool b3, .bool b4, .bool b5, .bool b6, .bool b7, .bool b8, .bool b9, .bool b10, .bool b11, .bool b12] = _
  refine den_ite (b := b12) rfl ?_ ?_
  refine den_ask (ps := [.int a1_0, .int a1_1, .int b2.1, .int b2.2]) (rr := span_Within.rr) (G := span_Within.f a1_0 a1_1 b2.1 b2.2) (by rw [h18]; exact span_Within.ap a1_0 a1_1 b2.1 b2.2) rfl rfl fun b13 => ?_
  show Sy.den F K _ _ [.int a0_0, .int a0_1, .int a1_0, .int a1_1, .int a2, .bool b0, .int b1.1, .int b1.2, .int b2.1, .int b2.2, .bool b3, .bool b4, .bool b5, .bool b6, .bool b7, .bool b8, .bool b9, .bool b10, .bool b11, .bool b12, .bool b13] = _
  refine den_ite (b := b13) rfl ?_ ?_
  refine den_ask (ps := [.int a0_0, .int a0_1, .int a1_0, .int a1_1]) (rr := span_Within.rr) (G := span_Within.f a0_0 a0_1 a1_0 a1_1) (by rw [h18]; exact span_Within.ap a0_0 a0_1 a1_0 a1_1) rfl rfl fun b14 => ?_
  show Sy.den F K _ _ [.int a0_0, .int a0_1, .int a1_0, .int a1_1, .int a2, .bool b0, .int b1.1, .int b1.2, .int b2.1, .int b2.2, .bool b3, .bool b4, .bool b5, .bool b6, .bool b7, .bool b8, .bool b9, .bool b10, .bool b11, .bool b12, .bool b13, .bool b14] = _
  refine den_ite (b := (!b14)) rfl ?_ ?_
  exact den_ret rfl
  exact den_ret rfl
  exact den_ret rfl
  exact den_ret rfl
  refine den_ite (b := (b2.2 == a1_1)) rfl ?_ ?_
  refine den_ask (ps := [.int a1_0, .int a1_1]) (rr := gatherumlaw03_empty.rr) (G := gatherumlaw03_empty.f a1_0 a1_1) (by rw [h14]; exact gatherumlaw03_empty.ap a1_0 a1_1) rfl rfl fun b12 => ?_
  show Sy.den F K _ _ [.int a0_0, .int a0_1, .int a1_0, .int a1_1, .int a2, .bool b0, .int b1.1, .int b1.2, .int b2.1, .int b2.2, .bool b3, .bool b4, .bool b5, .bool b6, .bool b7, .bool b8, .bool b9, .bool b10, .bool b11, .bool b12] = _
  refine den_ite (b := (!b12)) rfl ?_ ?_
  refine den_ask (ps := [.int a0_0, .int a0_1, .int b2.1, .int b2.2]) (rr := span_Within.rr) (G := span_Within.f a0_0 a0_1 b2.1 b2.2) (by rw [h18]; exact span_Within.ap a0_0 a0_1 b2.1 b2.2) rfl rfl fun b13 => ?_
  show Sy.den F K _ _ [.int a0_0, .int a0_1, .int a1_0, .int a1_1, .int a2, .bool b0, .int b1.1, .int b1.2, .int b2.1, .int b2.2, .bool b3, .bool b4, .bool b5, .bool b6, .bool b7, .bool b8, .bool b9, .bool b10, .bool b11, .bool b12, .bool b13] = _
  refine den_ite (b := b13) rfl ?_ ?_
  refine den_ask (ps := [.int a1_0, .int a1_1, .int b2.1, .int b2.2]) (rr := span_Within.rr) (G := span_Within.f a1_0 a1_1 b2.1 b2.2) (by rw [h18]; exact span_Within.ap a1_0 a1_1 b2.1 b2.2) rfl rfl fun b14 => ?_
  show Sy.den F K _ _ [.int a0_0, .int a0_1, .int a1_0, .int a1_1, .int a2, .bool b0, .int b1.1, .int b1.2, .int b2.1, .int b2.2, .bool b3, .bool b4, .bool b5, .bool b6, .bool b7, .bool b8, .bool b9, .bool b10, .bool b11, .bool b12, .bool b13, .bool b14] = _
  refine den_ite (b := b14) rfl ?_ ?_
  refine den_ask (ps := [.int a0_0, .int a0_1, .int a1_0, .int a1_1]) (rr := span_Within.rr) (G := span_Within.f a0_0 a0_1 a1_0 a1_1) (by rw [h18]; exact span_Within.ap a0_0 a0_1 a1_0 a1_1) rfl rfl fun b15 => ?_
  show Sy.den F K _ _ [.int a0_0, .int a0_1, .int a1_0, .int a1_1, .int a2, .bool b0, .int b1.1, .int b1.2, .int b2.1, .int b2.2, .bool b3, .bool b4, .bool b5, .bool b6, .bool b7, .bool b8, .bool b9, .bool b10, .bool b11, .bool b12, .bool b13, .bool b14, .bool b15] = _
  refine den_ite (b := (!b15)) rfl ?_ ?_
  exact den_ret rfl
  exact den_ret rfl
  exact den_ret rfl
  exact den_ret rfl
  exact den_ret rfl
  exact den_ret rfl
  refine den_ite (b := (b2.1 == a1_0)) rfl ?_ ?_
  refine den_ask (ps := [.int a1_0, .int a1_1]) (rr := gatherumlaw03_empty.rr) (G := gatherumlaw03_empty.f a1_0 a1_1) (by rw [h14]; exact gatherumlaw03_empty.ap a1_0 a1_1) rfl rfl fun b12 => ?_
  show Sy.den F K _ _ [.int a0_0, .int a0_1, .int a1_0, .int a1_1, .int a2, .bool b0, .int b1.1, .int b1.2, .int b2.1, .int b2.2, .bool b3, .bool b4, .bool b5, .bool b6, .bool b7, .bool b8, .bool b9, .bool b10, .bool b11, .bool b12] = _
  refine den_ite (b := (!b12)) rfl ?_ ?_
  refine den_ite (b := (b2.2 == a0_1)) rfl ?_ ?_
  refine den_ask (ps := [.int a0_0, .int a0_1, .int b2.1, .int b2.2]) (rr := span_Within.rr) (G := span_Within.f a0_0 a0_1 b2.1 b2.2) (by rw [h18]; exact span_Within.ap a0_0 a0_1 b2.1 b2.2) rfl rfl fun b13 => ?_
  show Sy.den F K _ _ [.int a0_0, .int a0_1, .int a1_0, .int a1_1, .int a2, .bool b0, .int b1.1, .int b1.2, .int b2.1, .int b2.2, .bool b3, .bool b4, .bool b5, .bool b6, .bool b7, .bool b8, .bool b9, .bool b10, .bool b11, .bool b12, .bool b13] = _
  refine den_ite (b := b13) rfl ?_ ?_
  refine den_ask (ps := [.int a1_0, .int a1_1, .int b2.1, .int b2.2]) (rr := span_Within.rr) (G := span_Within.f a1_0 a1_1 b2.1 b2.2) (by rw [h18]; exact span_Within.ap a1_0 a1_1 b2.1 b2.2) rfl rfl fun b14 => ?_
  show Sy.den F K _ _ [.int a0_0, .int a0_1, .int a1_0, .int a1_1, .int a2, .bool b0, .int b1.1, .int b1.2, .int b2.1, .int b2.2, .bool b3, .bool b4, .bool b5, .bool b6, .bool b7, .bool b8, .bool b9, .bool b10, .bool b11, .bool b12, .bool b13, .bool b14] = _
  refine den_ite (b := b14) rfl ?_ ?_
  refine den_ask (ps := [.int a0_0, .int a0_1, .int a1_0, .int a1_1]) (rr := span_Within.rr) (G := span_Within.f a0_0 a0_1 a1_0 a1_1) (by rw [h18]; exact span_Within.ap a0_0 a0_1 a1_0 a1_1) rfl rfl fun b15 => ?_
  show Sy.den F K _ _ [.int a0_0, .int a0_1, .int a1_0, .int a1_1, .int a2, .bool b0, .int b1.1, .int b1.2, .int b2.1, .int b2.2, .bool b3, .bool b4, .bool b5, .bool b6, .bool b7, .bool b8, .bool b9, .bool b10, .bool b11, .bool b12, .bool b13, .bool b14, .bool b15] = _
  refine den_ite (b := (!b15)) rfl ?_ ?_
  exact den_ret rfl
  exact den_ret rfl
  exact den_ret rfl
  exact den_ret rfl
  refine den_ite (b := (b2.2 == a1_1)) rfl ?_ ?_
  refine den_ask (ps := [.int a0_0, .int a0_1, .int b2.1, .int b2.2]) (rr := span_Within.rr) (G := span_Within.f a0_0 a0_1 b2.1 b2.2) (by rw [h18]; exact span_Within.ap a0_0 a0_1 b2.1 b2.2) rfl rfl fun b13 => ?_
  show Sy.den F K _ _ [.int a0_0, .int a0_1, .int a1_0, .int a1_1, .int a2, .bool b0, .int b1.1, .int b1.2, .int b2.1, .int b2.2, .bool b3, .bool b4, .bool b5, .bool b6, .bool b7, .bool b8, .bool b9, .bool b10, .bool b11, .bool b12, .bool b13] = _
  refine den_ite (b := b13) rfl ?_ ?_
  refine den_ask (ps := [.int a1_0, .int a1_1, .int b2.1, .int b2.2]) (rr := span_Within.rr) (G := span_Within.f a1_0 a1_1 b2.1 b2.2) (by rw [h18]; exact span_Within.ap a1_0 a1_1 b2.1 b2.2) rfl rfl fun b14 => ?_
  show Sy.den F K _ _ [.int a0_0, .int a0_1, .int a1_0, .int a1_1, .int a2, .bool b0, .int b1.1, .int b1.2, .int b2.1, .int b2.2, .bool b3, .bool b4, .bool b5, .bool b6, .bool b7, .bool b8, .bool b9, .bool b10, .bool b11, .bool b12, .bool b13, .bool b14] = _
  refine den_ite (b := b14) rfl ?_ ?_
  refine den_ask (ps := [.int a0_0, .int a0_1, .int a1_0, .int a1_1]) (rr := span_Within.rr) (G := span_Within.f a0_0 a0_1 a1_0 a1_1) (by rw [h18]; exact span_Within.ap a0_0 a0_1 a1_0 a1_1) rfl rfl fun b15 => ?_
  show Sy.den F K _ _ [.int a0_0, .int a0_1, .int a1_0, .int a1_1, .int a2, .bool b0, .int b1.1, .int b1.2, .int b2.1, .int b2.2, .bool b3, .bool b4, .bool b5, .bool b6, .bool b7, .bool b8, .bool b9, .bool b10, .bool b11, .bool b12, .bool b13, .bool b14, .bool b15] = _
  refine den_ite (b := (!b15)) rfl ?_ ?_
  exact den_ret rfl
  exact den_ret rfl
  exact den_ret rfl
  exact den_ret rfl
  exact den_ret rfl
  exact den_ret rfl
  exact den_ret rfl
  refine den_ask (ps := [.int a0_0, .int a0_1, .int a1_0, .int a1_1]) (rr := span_Apart.rr) (G := span_Apart.f a0_0 a0_1 a1_0 a1_1) (by rw [h23]; exact span_Apart.ap a0_0 a0_1 a1_0 a1_1) rfl rfl fun b11 => ?_
  show Sy.den F K _ _ [.int a0_0, .int a0_1, .int a1_0, .int a1_1, .int a2, .bool b0, .int b1.1, .int b1.2, .int b2.1, .int b2.2, .bool b3, .bool b4, .bool b5, .bool b6, .bool b7, .bool b8, .bool b9, .bool b10, .bool b11] = _
  refine den_ite (b := (!(b11 == b10))) rfl ?_ ?_
  exact den_ret rfl
  refine den_ite (b := b6) rfl ?_ ?_
  refine den_ask (ps := [.int a1_0, .int a1_1]) (rr := gatherumlaw03_empty.rr) (G := gatherumlaw03_empty.f a1_0 a1_1) (by rw [h14]; exact gatherumlaw03_empty.ap a1_0 a1_1) rfl rfl fun b12 => ?_
  show Sy.den F K _ _ [.int a0_0, .int a0_1, .int a1_0, .int a1_1, .int a2, .bool b0, .int b1.1, .int b1.2, .int b2.1, .int b2.2, .bool b3, .bool b4, .bool b5, .bool b6, .bool b7, .bool b8, .bool b9, .bool b10, .bool b11, .bool b12] = _
  refine den_ite (b := b12) rfl ?_ ?_
  exact den_ret rfl
  refine den_ite (b := (b2.1 == a0_0)) rfl ?_ ?_
  refine den_ite (b := (b2.1 == a1_0)) rfl ?_ ?_
  refine den_ite (b := (b2.2 == a0_1)) rfl ?_ ?_
  refine den_ite (b := (b2.2 == a1_1)) rfl ?_ ?_
  refine den_ask (ps := [.int a0_0, .int a0_1, .int b2.1, .int b2.2]) (rr := span_Within.rr) (G := span_Within.f a0_0 a0_1 b2.1 b2.2) (by rw [h18]; exact span_Within.ap a0_0 a0_1 b2.1 b2.2) rfl rfl fun b13 => ?_
  show Sy.den F K _ _ [.int a0_0, .int a0_1, .int a1_0, .int a1_1, .int a2, .bool b0, .int b1.1, .int b1.2, .int b2.1, .int b2.2, .bool b3, .bool b4, .bool b5, .bool b6, .bool b7, .bool b8, .bool b9, .bool b10, .bool b11, .bool b12, .bool b13] = _
  refine den_ite (b := b13) rfl ?_ ?_
  refine den_ask (ps := [.int a1_0, .int a1_1, .int b2.1, .int b2.2]) (rr := span_Within.rr) (G := span_Within.f a1_0 a1_1 b2.1 b2.2) (by rw [h18]; exact span_Within.ap a1_0 a1_1 b2.1 b2.2) rfl rfl fun b14 => ?_
  show Sy.den F K _ _ [.int a0_0, .int a0_1, .int a1_0, .int a1_1, .int a2, .bool b0, .int b1.1, .int b1.2, .int b2.1, .int b2.2, .bool b3, .bool b4, .bool b5, .bool b6, .bool b7, .bool b8, .bool b9, .bool b10, .bool b11, .bool b12, .bool b13, .bool b14] = _
  refine den_ite (b := b14) rfl ?_ ?_
  refine den_ask (ps := [.int a0_0, .int a0_1, .int a1_0, .int a1_1]) (rr := span_Within.rr) (G := span_Within.f a0_0 a0_1 a1_0 a1_1) (by rw [h18]; exact span_Within.ap a0_0 a0_1 a1_0 a1_1) rfl rfl fun b15 => ?_
  show Sy.den F K _ _ [.int a0_0, .int a0_1, .int a1_0, .int a1_1, .int a2, .bool b0, .int b1.1, .int b1.2, .int b2.1, .int b2.2, .bool b3, .bool b4, .bool b5, .bool b6, .bool b7, .bool b8, .bool b9, .bool b10, .bool b11, .bool b12, .bool b13, .bool b14, .bool b15] = _
  refine den_ite (b := (!b15)) rfl ?_ ?_
  exact den_ret rfl
  exact den_ret rfl
  exact den_ret rfl
  exact den_ret rfl
  exact den_ret rfl
  refine den_ite (b := (b2.2 == a1_1)) rfl ?_ ?_
  refine den_ask (ps := [.int a0_0, .int a0_1, .int b2.1, .int b2.2]) (rr := span_Within.rr) (G := span_Within.f a0_0 a0_1 b2.1 b2.2) (by rw [h18]; exact span_Within.ap a0_0 a0_1 b2.1 b2.2) rfl rfl fun b13 => ?_
  show Sy.den F K _ _ [.int a0_0, .int a0_1, .int a1_0, .int a1_1, .int a2, .bool b0, .int b1.1, .int b1.2, .int b2.1, .int b2.2, .bool b3, .bool b4, .bool b5, .bool b6, .bool b7, .bool b8, .bool b9, .bool b10, .bool b11, .bool b12, .bool b13] = _
  refine den_ite (b := b13) rfl ?_ ?_
  refine den_ask (ps := [.int a1_0, .int a1_1, .int b2.1, .int b2.2]) (rr := span_Within.rr) (G := span_Within.f a1_0 a1_1 b2.1 b2.2) (by rw [h18]; exact span_Within.ap a1_0 a1_1 b2.1 b2.2) rfl rfl fun b14 => ?_
  show Sy.den F K _ _ [.int a0_0, .int a0_1, .int a1_0, .int a1_1, .int a2, .bool b0, .int b1.1, .int b1.2, .int b2.1, .int b2.2, .bool b3, .bool b4, .bool b5, .bool b6, .bool b7, .bool b8, .bool b9, .bool b10, .bool b11, .bool b12, .bool b13, .bool b14] = _
  refine den_ite (b := b14) rfl ?_ ?_
  refine den_ask (ps := [.int a0_0, .int a0_1, .int a1_0, .int a1_1]) (rr := span_Within.rr) (G := span_Within.f a0_0 a0_1 a1_0 a1_1) (by rw [h18]; exact span_Within.ap a0_0 a0_1 a1_0 a1_1) rfl rfl fun b15 => ?_
  show Sy.den F K _ _ [.int a0_0, .int a0_1, .int a1_0, .int a1_1, .int a2, .bool b0, .int b1.1, .int b1.2, .int b2.1, .int b2.2, .bool b3, .bool b4, .bool b5, .bool b6, .bool b7, .bool b8, .bool b9, .bool b10, .bool b11, .bool b12, .bool b13, .bool b14, .bool b15] = _
  refine den_ite (b := (!b15)) rfl ?_ ?_
  exact den_ret rfl
  exact den_ret rfl
  exact den_ret rfl
  exact den_ret rfl
  exact den_ret rfl
  exact den_ret rfl
  refine den_ite (b := (b2.1 == a1_0)) rfl ?_ ?_
  refine den_ite (b := (b2.2 == a0_1)) rfl ?_ ?_
  refine den_ite (b := (b2.2 == a1_1)) rfl ?_ ?_
  refine den_ask (ps := [.int a0_0, .int a0_1, .int b2.1, .int b2.2]) (rr := span_Within.rr) (G := span_Within.f a0_0 a0_1 b2.1 b2.2) (by rw [h18]; exact span_Within.ap a0_0 a0_1 b2.1 b2.2) rfl rfl fun b13 => ?_
  show Sy.den F K _ _ [.int a0_0, .int a0_1, .int a1_0, .int a1_1, .int a2, .bool b0, .int b1.1, .int b1.2, .int b2.1, .int b2.2, .bool b3, .bool b4, .bool b5, .bool b6, .bool b7, .bool b8, .bool b9, .bool b10, .bool b11, .bool b12, .bool b13] = _
  refine den_ite (b := b13) rfl ?_ ?_
  refine den_ask (ps := [.int a1_0, .int a1_1, .int b2.1, .int b2.2]) (rr := span_Within.rr) (G := span_Within.f a1_0 a1_1 b2.1 b2.2) (by rw [h18]; exact span_Within.ap a1_0 a1_1 b2.1 b2.2) rfl rfl fun b14 => ?_
  show Sy.den F K _ _ [.int a0_0, .int a0_1, .int a1_0, .int a1_1, .int a2, .bool b0, .int b1.1, .int b1.2, .int b2.1, .int b2.2, .bool b3, .bool b4, .bool b5, .bool b6, .bool b7, .bool b8, .bool b9, .bool b10, .bool b11, .bool b12, .bool b13, .bool b14] = _
  refine den_ite (b := b14) rfl ?_ ?_
  refine den_ask (ps := [.int a0_0, .int a0_1, .int a1_0, .int a1_1]) (rr := span_Within.rr) (G := span_Within.f a0_0 a0_1 a1_0 a1_1) (by rw [h18]; exact span_Within.ap a0_0 a0_1 a1_0 a1_1) rfl rfl fun b15 => ?_
  show Sy.den F K _ _ [.int a0_0, .int a0_1, .int a1_0, .int a1_1, .int a2, .bool b0, .int b1.1, .int b1.2, .int b2.1, .int b2.2, .bool b3, .bool b4, .bool b5, .bool b6, .bool b7, .bool b8, .bool b9, .bool b10, .bool b11, .bool b12, .bool b13, .bool b14, .bool b15] = _
  refine den_ite (b := (!b15)) rfl ?_ ?_
  exact den_ret rfl
  exact den_ret rfl
  exact den_ret rfl
  exact den_ret rfl
  exact den_ret rfl
  refine den_ite (b := (b2.2 == a1_1)) rfl ?_ ?_
  refine den_ask (ps := [.int a0_0, .int a0_1, .int b2.1, .int b2.2]) (rr := span_Within.rr) (G := span_Within.f a0_0 a0_1 b2.1 b2.2) (by rw [h18]; exact span_Within.ap a0_0 a0_1 b2.1 b2.2) rfl rfl fun b13 => ?_
  show Sy.den F K _ _ [.int a0_0, .int a0_1, .int a1_0, .int a1_1, .int a2, .bool b0, .int b1.1, .int b1.2, .int b2.1, .int b2.2, .bool b3, .bool b4, .bool b5, .bool b6, .bool b7, .bool b8, .bool b9, .bool b10, .bool b11, .bool b12, .bool b13] = _
  refine den_ite (b := b13) rfl ?_ ?_
  refine den_ask (ps := [.int a1_0, .int a1_1, .int b2.1, .int b2.2]) (rr := span_Within.rr) (G := span_Within.f a1_0 a1_1 b2.1 b2.2) (by rw [h18]; exact span_Within.ap a1_0 a1_1 b2.1 b2.2) rfl rfl fun b14 => ?_
  show Sy.den F K _ _ [.int a0_0, .int a0_1, .int a1_0, .int a1_1, .int a2, .bool b0, .int b1.1, .int b1.2, .int b2.1, .int b2.2, .bool b3, .bool b4, .bool b5, .bool b6, .bool b7, .bool b8, .bool b9, .bool b10, .bool b11, .bool b12, .bool b13, .bool b14] = _
  refine den_ite (b := b14) rfl ?_ ?_
  refine den_ask (ps := [.int a0_0, .int a0_1, .int a1_0, .int a1_1]) (rr := span_Within.rr) (G := span_Within.f a0_0 a0_1 a1_0 a1_1) (by rw [h18]; exact span_Within.ap a0_0 a0_1 a1_0 a1_1) rfl rfl fun b15 => ?_
  show Sy.den F K _ _ [.int a0_0, .int a0_1, .int a1_0, .int a1_1, .int a2, .bool b0, .int b1.1, .int b1.2, .int b2.1, .int b2.2, .bool b3, .bool b4, .bool b5, .bool b6, .bool b7, .bool b8, .bool b9, .bool b10, .bool b11, .bool b12, .bool b13, .bool b14, .bool b15] = _
  refine den_ite (b := (!b15)) rfl ?_ ?_
  exact den_ret rfl
  exact den_ret rfl
  exact den_ret rfl
  exact den_ret rfl
  exact den_ret rfl
  exact den_ret rfl
  refine den_ite (b := (b2.1 == a0_0)) rfl ?_ ?_
  refine den_ite (b := (b2.2 == a0_1)) rfl ?_ ?_
  refine den_ask (ps := [.int a0_0, .int a0_1, .int b2.1, .int b2.2]) (rr := span_Within.rr) (G := span_Within.f a0_0 a0_1 b2.1 b2.2) (by rw [h18]; exact span_Within.ap a0_0 a0_1 b2.1 b2.2) rfl rfl fun b12 => ?_
  show Sy.den F K _ _ [.int a0_0, .int a0_1, .int a1_0, .int a1_1, .int a2, .bool b0, .int b1.1, .int b1.2, .int b2.1, .int b2.2, .bool b3, .bool b4, .bool b5, .bool b6, .bool b7, .bool b8, .bool b9, .bool b10, .bool b11, .bool b12] = _
  refine den_ite (b := b12) rfl ?_ ?_
  refine den_ask (ps := [.int a1_0, .int a1_1, .int b2.1, .int b2.2]) (rr := span_Within.rr) (G := span_Within.f a1_0 a1_1 b2.1 b2.2) (by rw [h18]; exact span_Within.ap a1_0 a1_1 b2.1 b2.2) rfl rfl fun b13 => ?_
  show Sy.den F K _ _ [.int a0_0, .int a0_1, .int a1_0, .int a1_1, .int a2, .bool b0, .int b1.1, .int b1.2, .int b2.1, .int b2.2, .bool b3, .bool b4, .bool b5, .bool b6, .bool b7, .bool b8, .bool b9, .bool b10, .bool b11, .bool b12, .bool b13] = _
  refine den_ite (b := b13) rfl ?_ ?_
  refine den_ask (ps := [.int a0_0, .int a0_1, .int a1_0, .int a1_1]) (rr := span_Within.rr) (G := span_Within.f a0_0 a0_1 a1_0 a1_1) (by rw [h18]; exact span_Within.ap a0_0 a0_1 a1_0 a1_1) rfl rfl fun b14 => ?_
  show Sy.den F K _ _ [.int a0_0, .int a0_1, .int a1_0, .int a1_1, .int a2, .bool b0, .int b1.1, .int b1.2, .int b2.1, .int b2.2, .bool b3, .bool b4, .bool b5, .bool b6, .bool b7, .bool b8, .bool b9, .bool b10, .bool b11, .bool b12, .bool b13, .bool b14] = _
  refine den_ite (b := (!b14)) rfl ?_ ?_
  exact den_ret rfl
  exact den_ret rfl
  exact den_ret rfl
  exact den_ret rfl
  refine den_ite (b := (b2.2 == a1_1)) rfl ?_ ?_
  refine den_ask (ps := [.int a1_0, .int a1_1]) (rr := gatherumlaw03_empty.rr) (G := gatherumlaw03_empty.f a1_0 a1_1) (by rw [h14]; exact gatherumlaw03_empty.ap a1_0 a1_1) rfl rfl fun b12 => ?_
  show Sy.den F K _ _ [.int a0_0, .int a0_1, .int a1_0, .int a1_1, .int a2, .bool b0, .int b1.1, .int b1.2, .int b2.1, .int b2.2, .bool b3, .bool b4, .bool b5, .bool b6, .bool b7, .bool b8, .bool b9, .bool b10, .bool b11, .bool b12] = _
  refine den_ite (b := (!b12)) rfl ?_ ?_
  refine den_ask (ps := [.int a0_0, .int a0_1, .int b2.1, .int b2.2]) (rr := span_Within.rr) (G := span_Within.f a0_0 a0_1 b2.1 b2.2) (by rw [h18]; exact span_Within.ap a0_0 a0_1 b2.1 b2.2) rfl rfl fun b13 => ?_
  show Sy.den F K _ _ [.int a0_0, .int a0_1, .int a1_0, .int a1_1, .int a2, .bool b0, .int b1.1, .int b1.2, .int b2.1, .int b2.2, .bool b3, .bool b4, .bool b5, .bool b6, .bool b7, .bool b8, .bool b9, .bool b10, .bool b11, .bool b12, .bool b13] = _
  refine den_ite (b := b13) rfl ?_ ?_
  refine den_ask (ps := [.int a1_0, .int a1_1, .int b2.1, .int b2.2]) (rr := span_Within.rr) (G := span_Within.f a1_0 a1_1 b2.1 b2.2) (by rw [h18]; exact span_Within.ap a1_0 a1_1 b2.1 b2.2) rfl rfl fun b14 => ?_
  show Sy.den F K _ _ [.int a0_0, .int a0_1, .int a1_0, .int a1_1, .int a2, .bool b0, .int b1.1, .int b1.2, .int b2.1, .int b2.2, .bool b3, .bool b4, .bool b5, .bool b6, .bool b7, .bool b8, .bool b9, .bool b10, .bool b11, .bool b12, .bool b13, .bool b14] = _
  refine den_ite (b := b14) rfl ?_ ?_
  refine den_ask (ps := [.int a0_0, .int a0_1, .int a1_0, .int a1_1]) (rr := span_Within.rr) (G := span_Within.f a0_0 a0_1 a1_0 a1_1) (by rw [h18]; exact span_Within.ap a0_0 a0_1 a1_0 a1_1) rfl rfl fun b15 => ?_
  show Sy.den F K _ _ [.int a0_0, .int a0_1, .int a1_0, .int a1_1, .int a2, .bool b0, .int b1.1, .int b1.2, .int b2.1, .int b2.2, .bool b3, .bool b4, .bool b5, .bool b6, .bool b7, .bool b8, .bool b9, .bool b10, .bool b11, .bool b12, .bool b13, .bool b14, .bool b15] = _
  refine den_ite (b := (!b15)) rfl ?_ ?_
  exact den_ret rfl
  exact den_ret rfl
  exact den_ret rfl
  exact den_ret rfl
  exact den_ret rfl
  exact den_ret rfl
  refine den_ite (b := (b2.1 == a1_0)) rfl ?_ ?_
  refine den_ask (ps := [.int a1_0, .int a1_1]) (rr := gatherumlaw03_empty.rr) (G := gatherumlaw03_empty.f a1_0 a1_1) (by rw [h14]; exact gatherumlaw03_empty.ap a1_0 a1_1) rfl rfl fun b12 => ?_
  show Sy.den F K _ _ [.int a0_0, .int a0_1, .int a1_0, .int a1_1, .int a2, .bool b0, .int b1.1, .int b1.2, .int b2.1, .int b2.2, .bool b3, .bool b4, .bool b5, .bool b6, .bool b7, .bool b8, .bool b9, .bool b10, .bool b11, .bool b12] = _
  refine den_ite (b := (!b12)) rfl ?_ ?_
  refine den_ite (b := (b2.2 == a0_1)) rfl ?_ ?_
  refine den_ask (ps := [.int a0_0, .int a0_1, .int b2.1, .int b2.2]) (rr := span_Within.rr) (G := span_Within.f a0_0 a0_1 b2.1 b2.2) (by rw [h18]; exact span_Within.ap a0_0 a0_1 b2.1 b2.2) rfl rfl fun b13 => ?_
  show Sy.den F K _ _ [.int a0_0, .int a0_1, .int a1_0, .int a1_1, .int a2, .bool b0, .int b1.1, .int b1.2, .int b2.1, .int b2.2, .bool b3, .bool b4, .bool b5, .bool b6, .bool b7, .bool b8, .bool b9, .bool b10, .bool b11, .bool b12, .bool b13] = _
  refine den_ite (b := b13) rfl ?_ ?_
  refine den_ask (ps := [.int a1_0, .int a1_1, .int b2.1, .int b2.2]) (rr := span_Within.rr) (G := span_Within.f a1_0 a1_1 b2.1 b2.2) (by rw [h18]; exact span_Within.ap a1_0 a1_1 b2.1 b2.2) rfl rfl fun b14 => ?_
  show Sy.den F K _ _ [.int a0_0, .int a0_1, .int a1_0, .int a1_1, .int a2, .bool b0, .int b1.1, .int b1.2, .int b2.1, .int b2.2, .bool b3, .bool b4, .bool b5, .bool b6, .bool b7, .bool b8, .bool b9, .bool b10, .bool b11, .bool b12, .bool b13, .bool b14] = _
  refine den_ite (b := b14) rfl ?_ ?_
  refine den_ask (ps := [.int a0_0, .int a0_1, .int a1_0, .int a1_1]) (rr := span_Within.rr) (G := span_Within.f a0_0 a0_1 a1_0 a1_1) (by rw [h18]; exact span_Within.ap a0_0 a0_1 a1_0 a1_1) rfl rfl fun b15 => ?_
  show Sy.den F K _ _ [.int a0_0, .int a0_1, .int a1_0, .int a1_1, .int a2, .bool b0, .int b1.1, .int b1.2, .int b2.1, .int b2.2, .bool b3, .bool b4, .bool b5, .bool b6, .bool b7, .bool b8, .bool b9, .bool b10, .bool b11, .bool b12, .bool b13, .bool b14, .bool b15] = _
  refine den_ite (b := (!b15)) rfl ?_ ?_
  exact den_ret rfl
  exact den_ret rfl
  exact den_ret rfl
  exact den_ret rfl
  refine den_ite (b := (b2.2 == a1_1)) rfl ?_ ?_
  refine den_ask (ps := [.int a0_0, .int a0_1, .int b2.1, .int b2.2]) (rr := span_Within.rr) (G := span_Within.f a0_0 a0_1 b2.1 b2.2) (by rw [h18]; exact span_Within.ap a0_0 a0_1 b2.1 b2.2) rfl rfl fun b13 => ?_
  show Sy.den F K _ _ [.int a0_0, .int a0_1, .int a1_0, .int a1_1, .int a2, .bool b0, .int b1.1, .int b1.2, .int b2.1, .int b2.2, .bool b3, .bool b4, .bool b5, .bool b6, .bool b7, .bool b8, .bool b9, .bool b10, .bool b11, .bool b12, .bool b13] = _
  refine den_ite (b := b13) rfl ?_ ?_
  refine den_ask (ps := [.int a1_0, .int a1_1, .int b2.1, .int b2.2]) (rr := span_Within.rr) (G := span_Within.f a1_0 a1_1 b2.1 b2.2) (by rw [h18]; exact span_Within.ap a1_0 a1_1 b2.1 b2.2) rfl rfl fun b14 => ?_
  show Sy.den F K _ _ [.int a0_0, .int a0_1, .int a1_0, .int a1_1, .int a2, .bool b0, .int b1.1, .int b1.2, .int b2.1, .int b2.2, .bool b3, .bool b4, .bool b5, .bool b6, .bool b7, .bool b8, .bool b9, .bool b10, .bool b11, .bool b12, .bool b13, .bool b14] = _
  refine den_ite (b := b14) rfl ?_ ?_
  refine den_ask (ps := [.int a0_0, .int a0_1, .int a1_0, .int a1_1]) (rr := span_Within.rr) (G := span_Within.f a0_0 a0_1 a1_0 a1_1) (by rw [h18]; exact span_Within.ap a0_0 a0_1 a1_0 a1_1) rfl rfl fun b15 => ?_
  show Sy.den F K _ _ [.int a0_0, .int a0_1, .int a1_0, .int a1_1, .int a2, .bool b0, .int b1.1, .int b1.2, .int b2.1, .int b2.2, .bool b3, .bool b4, .bool b5, .bool b6, .bool b7, .bool b8, .bool b9, .bool b10, .bool b11, .bool b12, .bool b13, .bool b14, .bool b15] = _
  refine den_ite (b := (!b15)) rfl ?_ ?_
  exact den_ret rfl
  exact den_ret rfl
  exact den_ret rfl
  exact den_ret rfl
  exact den_ret rfl
  exact den_ret rfl
  exact den_ret rfl
  refine den_ite (b := b7) rfl ?_ ?_
  exact den_ret rfl
  refine den_ask (ps := [.int a1_0, .int a1_1, .int a2]) (rr := gatherumlaw03_has.rr) (G := gatherumlaw03_has.f a1_0 a1_1 a2) (by rw [h17]; exact gatherumlaw03_has.ap a1_0 a1_1 a2) rfl rfl fun b8 => ?_
  show Sy.den F K _ _ [.int a0_0, .int a0_1, .int a1_0, .int a1_1, .int a2, .bool b0, .int b1.1, .int b1.2, .int b2.1, .int b2.2, .bool b3, .bool b4, .bool b5, .bool b6, .bool b7, .bool b8] = _
  refine den_ite (b := b8) rfl ?_ ?_
  refine den_ask (ps := [.int b2.1, .int b2.2, .int a2]) (rr := gatherumlaw03_has.rr) (G := gatherumlaw03_has.f b2.1 b2.2 a2) (by rw [h17]; exact gatherumlaw03_has.ap b2.1 b2.2 a2) rfl rfl fun b9 => ?_
  show Sy.den F K _ _ [.int a0_0, .int a0_1, .int a1_0, .int a1_1, .int a2, .bool b0, .int b1.1, .int b1.2, .int b2.1, .int b2.2, .bool b3, .bool b4, .bool b5, .bool b6, .bool b7, .bool b8, .bool b9] = _
  refine den_ite (b := (!b9)) rfl ?_ ?_
  exact den_ret rfl
  refine den_ask (ps := [.int b1.1, .int b1.2]) (rr := gatherumlaw03_empty.rr) (G := gatherumlaw03_empty.f b1.1 b1.2) (by rw [h14]; exact gatherumlaw03_empty.ap b1.1 b1.2) rfl rfl fun b10 => ?_
  show Sy.den F K _ _ [.int a0_0, .int a0_1, .int a1_0, .int a1_1, .int a2, .bool b0, .int b1.1, .int b1.2, .int b2.1, .int b2.2, .bool b3, .bool b4, .bool b5, .bool b6, .bool b7, .bool b8, .bool b9, .bool b10] = _
  refine den_ite (b := b10) rfl ?_ ?_
  refine den_ite (b := (!((b1.1 == 0) && (b1.2 == 0)))) rfl ?_ ?_
  exact den_ret rfl
  refine den_ask (ps := [.int a0_0, .int a0_1, .int a1_0, .int a1_1]) (rr := span_Apart.rr) (G := span_Apart.f a0_0 a0_1 a1_0 a1_1) (by rw [h23]; exact span_Apart.ap a0_0 a0_1 a1_0 a1_1) rfl rfl fun b11 => ?_
  show Sy.den F K _ _ [.int a0_0, .int a0_1, .int a1_0, .int a1_1, .int a2, .bool b0, .int b1.1, .int b1.2, .int b2.1, .int b2.2, .bool b3, .bool b4, .bool b5, .bool b6, .bool b7, .bool b8, .bool b9, .bool b10, .bool b11] = _
  refine den_ite (b := (!(b11 == b10))) rfl ?_ ?_
  exact den_ret rfl
  refine den_ite (b := b6) rfl ?_ ?_
  refine den_ask (ps := [.int a1_0, .int a1_1]) (rr := gatherumlaw03_empty.rr) (G := gatherumlaw03_empty.f a1_0 a1_1) (by rw [h14]; exact gatherumlaw03_empty.ap a1_0 a1_1) rfl rfl fun b12 => ?_
  show Sy.den F K _ _ [.int a0_0, .int a0_1, .int a1_0, .int a1_1, .int a2, .bool b0, .int b1.1, .int b1.2, .int b2.1, .int b2.2, .bool b3, .bool b4, .bool b5, .bool b6, .bool b7, .bool b8, .bool b9, .bool b10, .bool b11, .bool b12] = _
  refine den_ite (b := b12) rfl ?_ ?_
  exact den_ret rfl
  refine den_ite (b := (b2.1 == a0_0)) rfl ?_ ?_
  refine den_ite (b := (b2.1 == a1_0)) rfl ?_ ?_
  refine den_ite (b := (b2.2 == a0_1)) rfl ?_ ?_
  refine den_ite (b := (b2.2 == a1_1)) rfl ?_ ?_
  refine den_ask (ps := [.int a0_0, .int a0_1, .int b2.1, .int b2.2]) (rr := span_Within.rr) (G := span_Within.f a0_0 a0_1 b2.1 b2.2) (by rw [h18]; exact span_Within.ap a0_0 a0_1 b2.1 b2.2) rfl rfl fun b13 => ?_
  show Sy.den F K _ _ [.int a0_0, .int a0_1, .int a1_0, .int a1_1, .int a2, .bool b0, .int b1.1, .int b1.2, .int b2.1, .int b2.2, .bool b3, .bool b4, .bool b5, .bool b6, .bool b7, .bool b8, .bool b9, .bool b10, .bool b11, .bool b12, .bool b13] = _
  refine den_ite (b := b13) rfl ?_ ?_
  refine den_ask (ps := [.int a1_0, .int a1_1, .int b2.1, .int b2.2]) (rr := span_Within.rr) (G := span_Within.f a1_0 a1_1 b2.1 b2.2) (by rw [h18]; exact span_Within.ap a1_0 a1_1 b2.1 b2.2) rfl rfl fun b14 => ?_
  show Sy.den F K _ _ [.int a0_0, .int a0_1, .int a1_0, .int a1_1, .int a2, .bool b0, .int b1.1, .int b1.2, .int b2.1, .int b2.2, .bool b3, .bool b4, .bool b5, .bool b6, .bool b7, .bool b8, .bool b9, .bool b10, .bool b11, .bool b12, .bool b13, .bool b14] = _
  refine den_ite (b := b14) rfl ?_ ?_
  refine den_ask (ps := [.int a0_0, .int a0_1, .int a1_0, .int a1_1]) (rr := span_Within.rr) (G := span_Within.f a0_0 a0_1 a1_0 a1_1) (by rw [h18]; exact span_Within.ap a0_0 a0_1 a1_0 a1_1) rfl rfl fun b15 => ?_
  show Sy.den F K _ _ [.int a0_0, .int a0_1, .int a1_0, .int a1_1, .int a2, .bool b0, .int b1.1, .int b1.2, .int b2.1, .int b2.2, .bool b3, .bool b4, .bool b5, .bool b6, .bool b7, .bool b8, .bool b9, .bool b10, .bool b11, .bool b12, .bool b13, .bool b14, .bool b15] = _
  refine den_ite (b := (!b15)) rfl ?_ ?_
  exact den_ret rfl
  exact den_ret rfl
  exact den_ret rfl
  exact den_ret rfl
  exact den_ret rfl
  refine den_ite (b := (b2.2 == a1_1)) rfl ?_ ?_
  refine den_ask (ps := [.int a0_0, .int a0_1, .int b2.1, .int b2.2]) (rr := span_Within.rr) (G := span_Within.f a0_0 a0_1 b2.1 b2.2) (by rw [h18]; exact span_Within.ap a0_0 a0_1 b2.1 b2.2) rfl rfl fun b13 => ?_
  show Sy.den F K _ _ [.int a0_0, .int a0_1, .int a1_0, .int a1_1, .int a2, .bool b0, .int b1.1, .int b1.2, .int b2.1, .int b2.2, .bool b3, .bool b4, .bool b5, .bool b6, .bool b7, .bool b8, .bool b9, .bool b10, .bool b11, .bool b12, .bool b13] = _
  refine den_ite (b := b13) rfl ?_ ?_
  refine den_ask (ps := [.int a1_0, .int a1_1, .int b2.1, .int b2.2]) (rr := span_Within.rr) (G := span_Within.f a1_0 a1_1 b2.1 b2.2) (by rw [h18]; exact span_Within.ap a1_0 a1_1 b2.1 b2.2) rfl rfl fun b14 => ?_
  show Sy.den F K _ _ [.int a0_0, .int a0_1, .int a1_0, .int a1_1, .int a2, .bool b0, .int b1.1, .int b1.2, .int b2.1, .int b2.2, .bool b3, .bool b4, .bool b5, .bool b6, .bool b7, .bool b8, .bool b9, .bool b10, .bool b11, .bool b12, .bool b13, .bool b14] = _
  refine den_ite (b := b14) rfl ?_ ?_
  refine den_ask (ps := [.int a0_0, .int a0_1, .int a1_0, .int a1_1]) (rr := span_Within.rr) (G := span_Within.f a0_0 a0_1 a1_0 a1_1) (by rw [h18]; exact span_Within.ap a0_0 a0_1 a1_0 a1_1) rfl rfl fun b15 => ?_
  show Sy.den F K _ _ [.int a0_0, .int a0_1, .int a1_0, .int a1_1, .int a2, .bool b0, .int b1.1, .int b1.2, .int b2.1, .int b2.2, .bool b3, .bool b4, .bool b5, .bool b6, .bool b7, .bool b8, .bool b9, .bool b10, .bool b11, .bool b12, .bool b13, .bool b14, .bool b15] = _
  refine den_ite (b := (!b15)) rfl ?_ ?_
  exact den_ret rfl
  exact den_ret rfl
  exact den_ret rfl
  exact den_ret rfl
  exact den_ret rfl
  exact den_ret rfl
  refine den_ite (b := (b2.1 == a1_0)) rfl ?_ ?_
  refine den_ite (b := (b2.2 == a0_1)) rfl ?_ ?_
  refine den_ite (b := (b2.2 == a1_1)) rfl ?_ ?_
  refine den_ask (ps := [.int a0_0, .int a0_1, .int b2.1, .int b2.2]) (rr := span_Within.rr) (G := span_Within.f a0_0 a0_1 b2.1 b2.2) (by rw [h18]; exact span_Within.ap a0_0 a0_1 b2.1 b2.2) rfl rfl fun b13 => ?_
  show Sy.den F K _ _ [.int a0_0, .int a0_1, .int a1_0, .int a1_1, .int a2, .bool b0, .int b1.1, .int b1.2, .int b2.1, .int b2.2, .bool b3, .bool b4, .bool b5, .bool b6, .bool b7, .bool b8, .bool b9, .bool b10, .bool b11, .bool b12, .bool b13] = _
  refine den_ite (b := b13) rfl ?_ ?_
  refine den_ask (ps := [.int a1_0, .int a1_1, .int b2.1, .int b2.2]) (rr := span_Within.rr) (G := span_Within.f a1_0 a1_1 b2.1 b2.2) (by rw [h18]; exact span_Within.ap a1_0 a1_1 b2.1 b2.2) rfl rfl fun b14 => ?_
  show Sy.den F K _ _ [.int a0_0, .int a0_1, .int a1_0, .int a1_1, .int a2, .bool b0, .int b1.1, .int b1.2, .int b2.1, .int b2.2, .bool b3, .bool b4, .bool b5, .bool b6, .bool b7, .bool b8, .bool b9, .bool b10, .bool b11, .bool b12, .bool b13, .bool b14] = _
  refine den_ite (b := b14) rfl ?_ ?_
  refine den_ask (ps := [.int a0_0, .int a0_1, .int a1_0, .int a1_1]) (rr := span_Within.rr) (G := span_Within.f a0_0 a0_1 a1_0 a1_1) (by rw [h18]; exact span_Within.ap a0_0 a0_1 a1_0 a1_1) rfl rfl fun b15 => ?_
  show Sy.den F K _ _ [.int a0_0, .int a0_1, .int a1_0, .int a1_1, .int a2, .bool b0, .int b1.1, .int b1.2, .int b2.1, .int b2.2, .bool b3, .bool b4, .bool b5, .bool b6, .bool b7, .bool b8, .bool b9, .bool b10, .bool b11, .bool b12, .bool b13, .bool b14, .bool b15] = _
  refine den_ite (b := (!b15)) rfl ?_ ?_
  exact den_ret rfl
  exact den_ret rfl
  exact den_ret rfl
  exact den_ret rfl
  exact den_ret rfl
  refine den_ite (b := (b2.2 == a1_1)) rfl ?_ ?_
  refine den_ask (ps := [.int a0_0, .int a0_1, .int b2.1, .int b2.2]) (rr := span_Within.rr) (G := span_Within.f a0_0 a0_1 b2.1 b2.2) (by rw [h18]; exact span_Within.ap a0_0 a0_1 b2.1 b2.2) rfl rfl fun b13 => ?_
  show Sy.den F K _ _ [.int a0_0, .int a0_1, .int a1_0, .int a1_1, .int a2, .bool b0, .int b1.1, .int b1.2, .int b2.1, .int b2.2, .bool b3, .bool b4, .bool b5, .bool b6, .bool b7, .bool b8, .bool b9, .bool b10, .bool b11, .bool b12, .bool b13] = _
  refine den_ite (b := b13) rfl ?_ ?_
  refine den_ask (ps := [.int a1_0, .int a1_1, .int b2.1, .int b2.2]) (rr := span_Within.rr) (G := span_Within.f a1_0 a1_1 b2.1 b2.2) (by rw [h18]; exact span_Within.ap a1_0 a1_1 b2.1 b2.2) rfl rfl fun b14 => ?_
  show Sy.den F K _ _ [.int a0_0, .int a0_1, .int a1_0, .int a1_1, .int a2, .bool b0, .int b1.1, .int b1.2, .int b2.1, .int b2.2, .bool b3, .bool b4, .bool b5, .bool b6, .bool b7, .bool b8, .bool b9, .bool b10, .bool b11, .bool b12, .bool b13, .bool b14] = _
  refine den_ite (b := b14) rfl ?_ ?_
  refine den_ask (ps := [.int a0_0, .int a0_1, .int a1_0, .int a1_1]) (rr := span_Within.rr) (G := span_Within.f a0_0 a0_1 a1_0 a1_1) (by rw [h18]; exact span_Within.ap a0_0 a0_1 a1_0 a1_1) rfl rfl fun b15 => ?_
  show Sy.den F K _ _ [.int a0_0, .int a0_1, .int a1_0, .int a1_1, .int a2, .bool b0, .int b1.1, .int b1.2, .int b2.1, .int b2.2, .bool b3, .bool b4, .bool b5, .bool b6, .bool b7, .bool b8, .bool b9, .bool b10, .bool b11, .bool b12, .bool b13, .bool b14, .bool b15] = _
  refine den_ite (b := (!b15)) rfl ?_ ?_
  exact den_ret rfl
  exact den_ret rfl
  exact den_ret rfl
  exact den_ret rfl
  exact den_ret rfl
  exact den_ret rfl
  refine den_ite (b := (b2.1 == a0_0)) rfl ?_ ?_
  refine den_ite (b := (b2.2 == a0_1)) rfl ?_ ?_
  refine den_ask (ps := [.int a0_0, .int a0_1, .int b2.1, .int b2.2]) (rr := span_Within.rr) (G := span_Within.f a0_0 a0_1 b2.1 b2.2) (by rw [h18]; exact span_Within.ap a0_0 a0_1 b2.1 b2.2) rfl rfl fun b12 => ?_
  show Sy.den F K _ _ [.int a0_0, .int a0_1, .int a1_0, .int a1_1, .int a2, .bool b0, .int b1.1, .int b1.2, .int b2.1, .int b2.2, .bool b3, .bool b4, .bool b5, .bool b6, .bool b7, .bool b8, .bool b9, .bool b10, .bool b11, .bool b12] = _
  refine den_ite (b := b12) rfl ?_ ?_
  refine den_ask (ps := [.int a1_0, .int a1_1, .int b2.1, .int b2.2]) (rr := span_Within.rr) (G := span_Within.f a1_0 a1_1 b2.1 b2.2) (by rw [h18]; exact span_Within.ap a1_0 a1_1 b2.1 b2.2) rfl rfl fun b13 => ?_
  show Sy.den F K _ _ [.int a0_0, .int a0_1, .int a1_0, .int a1_1, .int a2, .bool b0, .int b1.1, .int b1.2, .int b2.1, .int b2.2, .bool b3, .bool b4, .bool b5, .bool b6, .bool b7, .bool b8, .bool b9, .bool b10, .bool b11, .bool b12, .bool b13] = _
  refine den_ite (b := b13) rfl ?_ ?_
  refine den_ask (ps := [.int a0_0, .int a0_1, .int a1_0, .int a1_1]) (rr := span_Within.rr) (G := span_Within.f a0_0 a0_1 a1_0 a1_1) (by rw [h18]; exact span_Within.ap a0_0 a0_1 a1_0 a1_1) rfl rfl fun b14 => ?_
  show Sy.den F K _ _ [.int a0_0, .int a0_1, .int a1_0, .int a1_1, .int a2, .bool b0, .int b1.1, .int b1.2, .int b2.1, .int b2.2, .bool b3, .bool b4, .bool b5, .bool b6, .bool b7, .bool b8, .bool b9, .bool b10, .bool b11, .bool b12, .bool b13, .bool b14] = _
  refine den_ite (b := (!b14)) rfl ?_ ?_
  exact den_ret rfl
  exact den_ret rfl
  exact den_ret rfl
  exact den_ret rfl
  refine den_ite (b := (b2.2 == a1_1)) rfl ?_ ?_
  refine den_ask (ps := [.int a1_0, .int a1_1]) (rr := gatherumlaw03_empty.rr) (G := gatherumlaw03_empty.f a1_0 a1_1) (by rw [h14]; exact gatherumlaw03_empty.ap a1_0 a1_1) rfl rfl fun b12 => ?_
  show Sy.den F K _ _ [.int a0_0, .int a0_1, .int a1_0, .int a1_1, .int a2, .bool b0, .int b1.1, .int b1.2, .int b2.1, .int b2.2, .bool b3, .bool b4, .bool b5, .bool b6, .bool b7, .bool b8, .bool b9, .bool b10, .bool b11, .bool b12] = _
  refine den_ite (b := (!b12)) rfl ?_ ?_
  refine den_ask (ps := [.int a0_0, .int a0_1, .int b2.1, .int b2.2]) (rr := span_Within.rr) (G := span_Within.f a0_0 a0_1 b2.1 b2.2) (by rw [h18]; exact span_Within.ap a0_0 a0_1 b2.1 b2.2) rfl rfl fun b13 => ?_
  show Sy.den F K _ _ [.int a0_0, .int a0_1, .int a1_0, .int a1_1, .int a2, .bool b0, .int b1.1, .int b1.2, .int b2.1, .int b2.2, .bool b3, .bool b4, .bool b5, .bool b6, .bool b7, .bool b8, .bool b9, .bool b10, .bool b11, .bool b12, .bool b13] = _
  refine den_ite (b := b13) rfl ?_ ?_
  refine den_ask (ps := [.int a1_0, .int a1_1, .int b2.1, .int b2.2]) (rr := span_Within.rr) (G := span_Within.f a1_0 a1_1 b2.1 b2.2) (by rw [h18]; exact span_Within.ap a1_0 a1_1 b2.1 b2.2) rfl rfl fun b14 => ?_
  show Sy.den F K _ _ [.int a0_0, .int a0_1, .int a1_0, .int a1_1, .int a2, .bool b0, .int b1.1, .int b1.2, .int b2.1, .int b2.2, .bool b3, .bool b4, .bool b5, .bool b6, .bool b7, .bool b8, .bool b9, .bool b10, .bool b11, .bool b12, .bool b13, .bool b14] = _
  refine den_ite (b := b14) rfl ?_ ?_
  refine den_ask (ps := [.int a0_0, .int a0_1, .int a1_0, .int a1_1]) (rr := span_Within.rr) (G := span_Within.f a0_0 a0_1 a1_0 a1_1) (by rw [h18]; exact span_Within.ap a0_0 a0_1 a1_0 a1_1) rfl rfl fun b15 => ?_
  show Sy.den F K _ _ [.int a0_0, .int a0_1, .int a1_0, .int a1_1, .int a2, .bool b0, .int b1.1, .int b1.2, .int b2.1, .int b2.2, .bool b3, .bool b4, .bool b5, .bool b6, .bool b7, .bool b8, .bool b9, .bool b10, .bool b11, .bool b12, .bool b13, .bool b14, .bool b15] = _
  refine den_ite (b := (!b15)) rfl ?_ ?_
  exact den_ret rfl
  exact den_ret rfl
  exact den_ret rfl
  exact den_ret rfl
  exact den_ret rfl
  exact den_ret rfl
  refine den_ite (b := (b2.1 == a1_0)) rfl ?_ ?_
  refine den_ask (ps := [.int a1_0, .int a1_1]) (rr := gatherumlaw03_empty.rr) (G := gatherumlaw03_empty.f a1_0 a1_1) (by rw [h14]; exact gatherumlaw03_empty.ap a1_0 a1_1) rfl rfl fun b12 => ?_
  show Sy.den F K _ _ [.int a0_0, .int a0_1, .int a1_0, .int a1_1, .int a2, .bool b0, .int b1.1, .int b1.2, .int b2.1, .int b2.2, .bool b3, .bool b4, .bool b5, .bool b6, .bool b7, .bool b8, .bool b9, .bool b10, .bool b11, .bool b12] = _
  refine den_ite (b := (!b12)) rfl ?_ ?_
  refine den_ite (b := (b2.2 == a0_1)) rfl ?_ ?_
  refine den_ask (ps := [.int a0_0, .int a0_1, .int b2.1, .int b2.2]) (rr := span_Within.rr) (G := span_Within.f a0_0 a0_1 b2.1 b2.2) (by rw [h18]; exact span_Within.ap a0_0 a0_1 b2.1 b2.2) rfl rfl fun b13 => ?_
  show Sy.den F K _ _ [.int a0_0, .int a0_1, .int a1_0, .int a1_1, .int a2, .bool b0, .int b1.1, .int b1.2, .int b2.1, .int b2.2, .bool b3, .bool b4, .bool b5, .bool b6, .bool b7, .bool b8, .bool b9, .bool b10, .bool b11, .bool b12, .bool b13] = _
  refine den_ite (b := b13) rfl ?_ ?_
  refine den_ask (ps := [.int a1_0, .int a1_1, .int b2.1, .int b2.2]) (rr := span_Within.rr) (G := span_Within.f a1_0 a1_1 b2.1 b2.2) (by rw [h18]; exact span_Within.ap a1_0 a1_1 b2.1 b2.2) rfl rfl fun b14 => ?_
  show Sy.den F K _ _ [.int a0_0, .int a0_1, .int a1_0, .int a1_1, .int a2, .bool b0, .int b1.1, .int b1.2, .int b2.1, .int b2.2, .bool b3, .bool b4, .bool b5, .bool b6, .bool b7, .bool b8, .bool b9, .bool b10, .bool b11, .bool b12, .bool b13, .bool b14] = _
  refine den_ite (b := b14) rfl ?_ ?_
  refine den_ask (ps := [.int a0_0, .int a0_1, .int a1_0, .int a1_1]) (rr := span_Within.rr) (G := span_Within.f a0_0 a0_1 a1_0 a1_1) (by rw [h18]; exact span_Within.ap a0_0 a0_1 a1_0 a1_1) rfl rfl fun b15 => ?_
  show Sy.den F K _ _ [.int a0_0, .int a0_1, .int a1_0, .int a1_1, .int a2, .bool b0, .int b1.1, .int b1.2, .int b2.1, .int b2.2, .bool b3, .bool b4, .bool b5, .bool b6, .bool b7, .bool b8, .bool b9, .bool b10, .bool b11, .bool b12, .bool b13, .bool b14, .bool b15] = _
  refine den_ite (b := (!b15)) rfl ?_ ?_
  exact den_ret rfl
  exact den_ret rfl
  exact den_ret rfl
  exact den_ret rfl
  refine den_ite (b := (b2.2 == a1_1)) rfl ?_ ?_
  refine den_ask (ps := [.int a0_0, .int a0_1, .int b2.1, .int b2.2]) (rr := span_Within.rr) (G := span_Within.f a0_0 a0_1 b2.1 b2.2) (by rw [h18]; exact span_Within.ap a0_0 a0_1 b2.1 b2.2) rfl rfl fun b13 => ?_
  show Sy.den F K _ _ [.int a0_0, .int a0_1, .int a1_0, .int a1_1, .int a2, .bool b0, .int b1.1, .int b1.2, .int b2.1, .int b2.2, .bool b3, .bool b4, .bool b5, .bool b6, .bool b7, .bool b8, .bool b9, .bool b10, .bool b11, .bool b12, .bool b13] = _
  refine den_ite (b := b13) rfl ?_ ?_
  refine den_ask (ps := [.int a1_0, .int a1_1, .int b2.1, .int b2.2]) (rr := span_Within.rr) (G := span_Within.f a1_0 a1_1 b2.1 b2.2) (by rw [h18]; exact span_Within.ap a1_0 a1_1 b2.1 b2.2) rfl rfl fun b14 => ?_
  show Sy.den F K _ _ [.int a0_0, .int a0_1, .int a1_0, .int a1_1, .int a2, .bool b0, .int b1.1, .int b1.2, .int b2.1, .int b2.2, .bool b3, .bool b4, .bool b5, .bool b6, .bool b7, .bool b8, .bool b9, .bool b10, .bool b11, .bool b12, .bool b13, .bool b14] = _
  refine den_ite (b := b14) rfl ?_ ?_
  refine den_ask (ps := [.int a0_0, .int a0_1, .int a1_0, .int a1_1]) (rr := span_Within.rr) (G := span_Within.f a0_0 a0_1 a1_0 a1_1) (by rw [h18]; exact span_Within.ap a0_0 a0_1 a1_0 a1_1) rfl rfl fun b15 => ?_
  show Sy.den F K _ _ [.int a0_0, .int a0_1, .int a1_0, .int a1_1, .int a2, .bool b0, .int b1.1, .int b1.2, .int b2.1, .int b2.2, .bool b3, .bool b4, .bool b5, .bool b6, .bool b7, .bool b8, .bool b9, .bool b10, .bool b11, .bool b12, .bool b13, .bool b14, .bool b15] = _
  refine den_ite (b := (!b15)) rfl ?_ ?_
  exact den_ret rfl
  exact den_ret rfl
  exact den_ret rfl
  exact den_ret rfl
  exact den_ret rfl
  exact den_ret rfl
  exact den_ret rfl
  refine den_ask (ps := [.int a0_0, .int a0_1, .int a1_0, .int a1_1]) (rr := span_Apart.rr) (G := span_Apart.f a0_0 a0_1 a1_0 a1_1) (by rw [h23]; exact span_Apart.ap a0_0 a0_1 a1_0 a1_1) rfl rfl fun b11 => ?_
  show Sy.den F K _ _ [.int a0_0, .int a0_1, .int a1_0, .int a1_1, .int a2, .bool b0, .int b1.1, .int b1.2, .int b2.1, .int b2.2, .bool b3, .bool b4, .bool b5, .bool b6, .bool b7, .bool b8, .bool b9, .bool b10, .bool b11] = _
  refine den_ite (b := (!(b11 == b10))) rfl ?_ ?_
  exact den_ret rfl
  refine den_ite (b := b6) rfl ?_ ?_
  refine den_ask (ps := [.int a1_0, .int a1_1]) (rr := gatherumlaw03_empty.rr) (G := gatherumlaw03_empty.f a1_0 a1_1) (by rw [h14]; exact gatherumlaw03_empty.ap a1_0 a1_1) rfl rfl fun b12 => ?_
  show Sy.den F K _ _ [.int a0_0, .int a0_1, .int a1_0, .int a1_1, .int a2, .bool b0, .int b1.1, .int b1.2, .int b2.1, .int b2.2, .bool b3, .bool b4, .bool b5, .bool b6, .bool b7, .bool b8, .bool b9, .bool b10, .bool b11, .bool b12] = _
  refine den_ite (b := b12) rfl ?_ ?_
  exact den_ret rfl
  refine den_ite (b := (b2.1 == a0_0)) rfl ?_ ?_
  refine den_ite (b := (b2.1 == a1_0)) rfl ?_ ?_
  refine den_ite (b := (b2.2 == a0_1)) rfl ?_ ?_
  refine den_ite (b := (b2.2 == a1_1)) rfl ?_ ?_
  refine den_ask (ps := [.int a0_0, .int a0_1, .int b2.1, .int b2.2]) (rr := span_Within.rr) (G := span_Within.f a0_0 a0_1 b2.1 b2.2) (by rw [h18]; exact span_Within.ap a0_0 a0_1 b2.1 b2.2) rfl rfl fun b13 => ?_
  show Sy.den F K _ _ [.int a0_0, .int a0_1, .int a1_0, .int a1_1, .int a2, .bool b0, .int b1.1, .int b1.2, .int b2.1, .int b2.2, .bool b3, .bool b4, .bool b5, .bool b6, .bool b7, .bool b8, .bool b9, .bool b10, .bool b11, .bool b12, .bool b13] = _
  refine den_ite (b := b13) rfl ?_ ?_
  refine den_ask (ps := [.int a1_0, .int a1_1, .int b2.1, .int b2.2]) (rr := span_Within.rr) (G := span_Within.f a1_0 a1_1 b2.1 b2.2) (by rw [h18]; exact span_Within.ap a1_0 a1_1 b2.1 b2.2) rfl rfl fun b14 => ?_
  show Sy.den F K _ _ [.int a0_0, .int a0_1, .int a1_0, .int a1_1, .int a2, .bool b0, .int b1.1, .int b1.2, .int b2.1, .int b2.2, .bool b3, .bool b4, .bool b5, .bool b6, .bool b7, .bool b8, .bool b9, .bool b10, .bool b11, .bool b12, .bool b13, .bool b14] = _
  refine den_ite (b := b14) rfl ?_ ?_
  refine den_ask (ps := [.int a0_0, .int a0_1, .int a1_0, .int a1_1]) (rr := span_Within.rr) (G := span_Within.f a0_0 a0_1 a1_0 a1_1) (by rw [h18]; exact span_Within.ap a0_0 a0_1 a1_0 a1_1) rfl rfl fun b15 => ?_
  show Sy.den F K _ _ [.int a0_0, .int a0_1, .int a1_0, .int a1_1, .int a2, .bool b0, .int b1.1, .int b1.2, .int b2.1, .int b2.2, .bool b3, .bool b4, .bool b5, .bool b6, .bool b7, .bool b8, .bool b9, .bool b10, .bool b11, .bool b12, .bool b13, .bool b14, .bool b15] = _
  refine den_ite (b := (!b15)) rfl ?_ ?_
  exact den_ret rfl
  exact den_ret rfl
  exact den_ret rfl
  exact den_ret rfl
  exact den_ret rfl
  refine den_ite (b := (b2.2 == a1_1)) rfl ?_ ?_
  refine den_ask (ps := [.int a0_0, .int a0_1, .int b2.1, .int b2.2]) (rr := span_Within.rr) (G := span_Within.f a0_0 a0_1 b2.1 b2.2) (by rw [h18]; exact span_Within.ap a0_0 a0_1 b2.1 b2.2) rfl rfl fun b13 => ?_
  show Sy.den F K _ _ [.int a0_0, .int a0_1, .int a1_0, .int a1_1, .int a2, .bool b0, .int b1.1, .int b1.2, .int b2.1, .int b2.2, .bool b3, .bool b4, .bool b5, .bool b6, .bool b7, .bool b8, .bool b9, .bool b10, .bool b11, .bool b12, .bool b13] = _
  refine den_ite (b := b13) rfl ?_ ?_
  refine den_ask (ps := [.int a1_0, .int a1_1, .int b2.1, .int b2.2]) (rr := span_Within.rr) (G := span_Within.f a1_0 a1_1 b2.1 b2.2) (by rw [h18]; exact span_Within.ap a1_0 a1_1 b2.1 b2.2) rfl rfl fun b14 => ?_
  show Sy.den F K _ _ [.int a0_0, .int a0_1, .int a1_0, .int a1_1, .int a2, .bool b0, .int b1.1, .int b1.2, .int b2.1, .int b2.2, .bool b3, .bool b4, .bool b5, .bool b6, .bool b7, .bool b8, .bool b9, .bool b10, .bool b11, .bool b12, .bool b13, .bool b14] = _
  refine den_ite (b := b14) rfl ?_ ?_
  refine den_ask (ps := [.int a0_0, .int a0_1, .int a1_0, .int a1_1]) (rr := span_Within.rr) (G := span_Within.f a0_0 a0_1 a1_0 a1_1) (by rw [h18]; exact span_Within.ap a0_0 a0_1 a1_0 a1_1) rfl rfl fun b15 => ?_
  show Sy.den F K _ _ [.int a0_0, .int a0_1, .int a1_0, .int a1_1, .int a2, .bool b0, .int b1.1, .int b1.2, .int b2.1, .int b2.2, .bool b3, .bool b4, .bool b5, .bool b6, .bool b7, .bool b8, .bool b9, .bool b10, .bool b11, .bool b12, .bool b13, .bool b14, .bool b15] = _
  refine den_ite (b := (!b15)) rfl ?_ ?_
  exact den_ret rfl
  exact den_ret rfl
  exact den_ret rfl
  exact den_ret rfl
  exact den_ret rfl
  exact den_ret rfl
  refine den_ite (b := (b2.1 == a1_0)) rfl ?_ ?_
  refine den_ite (b := (b2.2 == a0_1)) rfl ?_ ?_
  refine den_ite (b := (b2.2 == a1_1)) rfl ?_ ?_
  refine den_ask (ps := [.int a0_0, .int a0_1, .int b2.1, .int b2.2]) (rr := span_Within.rr) (G := span_Within.f a0_0 a0_1 b2.1 b2.2) (by rw [h18]; exact span_Within.ap a0_0 a0_1 b2.1 b2.2) rfl rfl fun b13 => ?_
  show Sy.den F K _ _ [.int a0_0, .int a0_1, .int a1_0, .int a1_1, .int a2, .bool b0, .int b1.1, .int b1.2, .int b2.1, .int b2.2, .bool b3, .bool b4, .bool b5, .bool b6, .bool b7, .bool b8, .bool b9, .bool b10, .bool b11, .bool b12, .bool b13] = _
  refine den_ite (b := b13) rfl ?_ ?_
  refine den_ask (ps := [.int a1_0, .int a1_1, .int b2.1, .int b2.2]) (rr := span_Within.rr) (G := span_Within.f a1_0 a1_1 b2.1 b2.2) (by rw [h18]; exact span_Within.ap a1_0 a1_1 b2.1 b2.2) rfl rfl fun b14 => ?_
  show Sy.den F K _ _ [.int a0_0, .int a0_1, .int a1_0, .int a1_1, .int a2, .bool b0, .int b1.1, .int b1.2, .int b2.1, .int b2.2, .bool b3, .bool b4, .bool b5, .bool b6, .bool b7, .bool b8, .bool b9, .bool b10, .bool b11, .bool b12, .bool b13, .bool b14] = _
  refine den_ite (b := b14) rfl ?_ ?_
  refine den_ask (ps := [.int a0_0, .int a0_1, .int a1_0, .int a1_1]) (rr := span_Within.rr) (G := span_Within.f a0_0 a0_1 a1_0 a1_1) (by rw [h18]; exact span_Within.ap a0_0 a0_1 a1_0 a1_1) rfl rfl fun b15 => ?_
  show Sy.den F K _ _ [.int a0_0, .int a0_1, .int a1_0, .int a1_1, .int a2, .bool b0, .int b1.1, .int b1.2, .int b2.1, .int b2.2, .bool b3, .bool b4, .bool b5, .bool b6, .bool b7, .bool b8, .bool b9, .bool b10, .bool b11, .bool b12, .bool b13, .bool b14, .bool b15] = _
  refine den_ite (b := (!b15)) rfl ?_ ?_
  exact den_ret rfl
  exact den_ret rfl
  exact den_ret rfl
  exact den_ret rfl
  exact den_ret rfl
  refine den_ite (b := (b2.2 == a1_1)) rfl ?_ ?_
  refine den_ask (ps := [.int a0_0, .int a0_1, .int b2.1, .int b2.2]) (rr := span_Within.rr) (G := span_Within.f a0_0 a0_1 b2.1 b2.2) (by rw [h18]; exact span_Within.ap a0_0 a0_1 b2.1 b2.2) rfl rfl fun b13 => ?_
  show Sy.den F K _ _ [.int a0_0, .int a0_1, .int a1_0, .int a1_1, .int a2, .bool b0, .int b1.1, .int b1.2, .int b2.1, .int b2.2, .bool b3, .bool b4, .bool b5, .bool b6, .bool b7, .bool b8, .bool b9, .bool b10, .bool b11, .bool b12, .bool b13] = _
  refine den_ite (b := b13) rfl ?_ ?_
  refine den_ask (ps := [.int a1_0, .int a1_1, .int b2.1, .int b2.2]) (rr := span_Within.rr) (G := span_Within.f a1_0 a1_1 b2.1 b2.2) (by rw [h18]; exact span_Within.ap a1_0 a1_1 b2.1 b2.2) rfl rfl fun b14 => ?_
  show Sy.den F K _ _ [.int a0_0, .int a0_1, .int a1_0, .int a1_1, .int a2, .bool b0, .int b1.1, .int b1.2, .int b2.1, .int b2.2, .bool b3, .bool b4, .bool b5, .bool b6, .bool b7, .bool b8, .bool b9, .bool b10, .bool b11, .bool b12, .bool b13, .bool b14] = _
  refine den_ite (b := b14) rfl ?_ ?_
  refine den_ask (ps := [.int a0_0, .int a0_1, .int a1_0, .int a1_1]) (rr := span_Within.rr) (G := span_Within.f a0_0 a0_1 a1_0 a1_1) (by rw [h18]; exact span_Within.ap a0_0 a0_1 a1_0 a1_1) rfl rfl fun b15 => ?_
  show Sy.den F K _ _ [.int a0_0, .int a0_1, .int a1_0, .int a1_1, .int a2, .bool b0, .int b1.1, .int b1.2, .int b2.1, .int b2.2, .bool b3, .bool b4, .bool b5, .bool b6, .bool b7, .bool b8, .bool b9, .bool b10, .bool b11, .bool b12, .bool b13, .bool b14, .bool b15] = _
  refine den_ite (b := (!b15)) rfl ?_ ?_
  exact den_ret rfl
  exact den_ret rfl
  exact den_ret rfl
  exact den_ret rfl
  exact den_ret rfl
  exact den_ret rfl
  refine den_ite (b := (b2.1 == a0_0)) rfl ?_ ?_
  refine den_ite (b := (b2.2 == a0_1)) rfl ?_ ?_
  refine den_ask (ps := [.int a0_0, .int a0_1, .int b2.1, .int b2.2]) (rr := span_Within.rr) (G := span_Within.f a0_0 a0_1 b2.1 b2.2) (by rw [h18]; exact span_Within.ap a0_0 a0_1 b2.1 b2.2) rfl rfl fun b12 => ?_
  show Sy.den F K _ _ [.int a0_0, .int a0_1, .int a1_0, .int a1_1, .int a2, .bool b0, .int b1.1, .int b1.2, .int b2.1, .int b2.2, .bool b3, .bool b4, .bool b5, .bool b6, .bool b7, .bool b8, .bool b9, .bool b10, .bool b11, .bool b12] = _
  refine den_ite (b := b12) rfl ?_ ?_
  refine den_ask (ps := [.int a1_0, .int a1_1, .int b2.1, .int b2.2]) (rr := span_Within.rr) (G := span_Within.f a1_0 a1_1 b2.1 b2.2) (by rw [h18]; exact span_Within.ap a1_0 a1_1 b2.1 b2.2) rfl rfl fun b13 => ?_
  show Sy.den F K _ _ [.int a0_0, .int a0_1, .int a1_0, .int a1_1, .int a2, .bool b0, .int b1.1, .int b1.2, .int b2.1, .int b2.2, .bool b3, .bool b4, .bool b5, .bool b6, .bool b7, .bool b8, .bool b9, .bool b10, .bool b11, .bool b12, .bool b13] = _
  refine den_ite (b := b13) rfl ?_ ?_
  refine den_ask (ps := [.int a0_0, .int a0_1, .int a1_0, .int a1_1]) (rr := span_Within.rr) (G := span_Within.f a0_0 a0_1 a1_0 a1_1) (by rw [h18]; exact span_Within.ap a0_0 a0_1 a1_0 a1_1) rfl rfl fun b14 => ?_
  show Sy.den F K _ _ [.int a0_0, .int a0_1, .int a1_0, .int a1_1, .int a2, .bool b0, .int b1.1, .int b1.2, .int b2.1, .int b2.2, .bool b3, .bool b4, .bool b5, .bool b6, .bool b7, .bool b8, .bool b9, .bool b10, .bool b11, .bool b12, .bool b13, .bool b14] = _
  refine den_ite (b := (!b14)) rfl ?_ ?_
  exact den_ret rfl
  exact den_ret rfl
  exact den_ret rfl
  exact den_ret rfl
  refine den_ite (b := (b2.2 == a1_1)) rfl ?_ ?_
  refine den_ask (ps := [.int a1_0, .int a1_1]) (rr := gatherumlaw03_empty.rr) (G := gatherumlaw03_empty.f a1_0 a1_1) (by rw [h14]; exact gatherumlaw03_empty.ap a1_0 a1_1) rfl rfl fun b12 => ?_
  show Sy.den F K _ _ [.int a0_0, .int a0_1, .int a1_0, .int a1_1, .int a2, .bool b0, .int b1.1, .int b1.2, .int b2.1, .int b2.2, .bool b3, .bool b4, .bool b5, .bool b6, .bool b7, .bool b8, .bool b9, .bool b10, .bool b11, .bool b12] = _
  refine den_ite (b := (!b12)) rfl ?_ ?_
  refine den_ask (ps := [.int a0_0, .int a0_1, .int b2.1, .int b2.2]) (rr := span_Within.rr) (G := span_Within.f a0_0 a0_1 b2.1 b2.2) (by rw [h18]; exact span_Within.ap a0_0 a0_1 b2.1 b2.2) rfl rfl fun b13 => ?_
  show Sy.den F K _ _ [.int a0_0, .int a0_1, .int a1_0, .int a1_1, .int a2, .bool b0, .int b1.1, .int b1.2, .int b2.1, .int b2.2, .bool b3, .bool b4, .bool b5, .bool b6, .bool b7, .bool b8, .bool b9, .bool b10, .bool b11, .bool b12, .bool b13] = _
  refine den_ite (b := b13) rfl ?_ ?_
  refine den_ask (ps := [.int a1_0, .int a1_1, .int b2.1, .int b2.2]) (rr := span_Within.rr) (G := span_Within.f a1_0 a1_1 b2.1 b2.2) (by rw [h18]; exact span_Within.ap a1_0 a1_1 b2.1 b2.2) rfl rfl fun b14 => ?_
  show Sy.den F K _ _ [.int a0_0, .int a0_1, .int a1_0, .int a1_1, .int a2, .bool b0, .int b1.1, .int b1.2, .int b2.1, .int b2.2, .bool b3, .bool b4, .bool b5, .bool b6, .bool b7, .bool b8, .bool b9, .bool b10, .bool b11, .bool b12, .bool b13, .bool b14] = _
  refine den_ite (b := b14) rfl ?_ ?_
  refine den_ask (ps := [.int a0_0, .int a0_1, .int a1_0, .int a1_1]) (rr := span_Within.rr) (G := span_Within.f a0_0 a0_1 a1_0 a1_1) (by rw [h18]; exact span_Within.ap a0_0 a0_1 a1_0 a1_1) rfl rfl fun b15 => ?_
  show Sy.den F K _ _ [.int a0_0, .int a0_1, .int a1_0, .int a1_1, .int a2, .bool b0, .int b1.1, .int b1.2, .int b2.1, .int b2.2, .bool b3, .bool b4, .bool b5, .bool b6, .bool b7, .bool b8, .bool b9, .bool b10, .bool b11, .bool b12, .bool b13, .bool b14, .bool b15] = _
  refine den_ite (b := (!b15)) rfl ?_ ?_
  exact den_ret rfl
  exact den_ret rfl
  exact den_ret rfl
  exact den_ret rfl
  exact den_ret rfl
  exact den_ret rfl
  refine den_ite (b := (b2.1 == a1_0)) rfl ?_ ?_
  refine den_ask (ps := [.int a1_0, .int a1_1]) (rr := gatherumlaw03_empty.rr) (G := gatherumlaw03_empty.f a1_0 a1_1) (by rw [h14]; exact gatherumlaw03_empty.ap a1_0 a1_1) rfl rfl fun b12 => ?_
  show Sy.den F K _ _ [.int a0_0, .int a0_1, .int a1_0, .int a1_1, .int a2, .bool b0, .int b1.1, .int b1.2, .int b2.1, .int b2.2, .bool b3, .bool b4, .bool b5, .bool b6, .bool b7, .bool b8, .bool b9, .bool b10, .bool b11, .bool b12] = _
  refine den_ite (b := (!b12)) rfl ?_ ?_
  refine den_ite (b := (b2.2 == a0_1)) rfl ?_ ?_
  refine den_ask (ps := [.int a0_0, .int a0_1, .int b2.1, .int b2.2]) (rr := span_Within.rr) (G := span_Within.f a0_0 a0_1 b2.1 b2.2) (by rw [h18]; exact span_Within.ap a0_0 a0_1 b2.1 b2.2) rfl rfl fun b13 => ?_
  show Sy.den F K _ _ [.int a0_0, .int a0_1, .int a1_0, .int a1_1, .int a2, .bool b0, .int b1.1, .int b1.2, .int b2.1, .int b2.2, .bool b3, .bool b4, .bool b5, .bool b6, .bool b7, .bool b8, .bool b9, .bool b10, .bool b11, .bool b12, .bool b13] = _
  refine den_ite (b := b13) rfl ?_ ?_
  refine den_ask (ps := [.int a1_0, .int a1_1, .int b2.1, .int b2.2]) (rr := span_Within.rr) (G := span_Within.f a1_0 a1_1 b2.1 b2.2) (by rw [h18]; exact span_Within.ap a1_0 a1_1 b2.1 b2.2) rfl rfl fun b14 => ?_
  show Sy.den F K _ _ [.int a0_0, .int a0_1, .int a1_0, .int a1_1, .int a2, .bool b0, .int b1.1, .int b1.2, .int b2.1, .int b2.2, .bool b3, .bool b4, .bool b5, .bool b6, .bool b7, .bool b8, .bool b9, .bool b10, .bool b11, .bool b12, .bool b13, .bool b14] = _
  refine den_ite (b := b14) rfl ?_ ?_
  refine den_ask (ps := [.int a0_0, .int a0_1, .int a1_0, .int a1_1]) (rr := span_Within.rr) (G := span_Within.f a0_0 a0_1 a1_0 a1_1) (by rw [h18]; exact span_Within.ap a0_0 a0_1 a1_0 a1_1) rfl rfl fun b15 => ?_
  show Sy.den F K _ _ [.int a0_0, .int a0_1, .int a1_0, .int a1_1, .int a2, .bool b0, .int b1.1, .int b1.2, .int b2.1, .int b2.2, .bool b3, .bool b4, .bool b5, .bool b6, .bool b7, .bool b8, .bool b9, .bool b10, .bool b11, .bool b12, .bool b13, .bool b14, .bool b15] = _
  refine den_ite (b := (!b15)) rfl ?_ ?_
  exact den_ret rfl
  exact den_ret rfl
  exact den_ret rfl
  exact den_ret rfl
  refine den_ite (b := (b2.2 == a1_1)) rfl ?_ ?_
  refine den_ask (ps := [.int a0_0, .int a0_1, .int b2.1, .int b2.2]) (rr := span_Within.rr) (G := span_Within.f a0_0 a0_1 b2.1 b2.2) (by rw [h18]; exact span_Within.ap a0_0 a0_1 b2.1 b2.2) rfl rfl fun b13 => ?_
  show Sy.den F K _ _ [.int a0_0, .int a0_1, .int a1_0, .int a1_1, .int a2, .bool b0, .int b1.1, .int b1.2, .int b2.1, .int b2.2, .bool b3, .bool b4, .bool b5, .bool b6, .bool b7, .bool b8, .bool b9, .bool b10, .bool b11, .bool b12, .bool b13] = _
  refine den_ite (b := b13) rfl ?_ ?_
  refine den_ask (ps := [.int a1_0, .int a1_1, .int b2.1, .int b2.2]) (rr := span_Within.rr) (G := span_Within.f a1_0 a1_1 b2.1 b2.2) (by rw [h18]; exact span_Within.ap a1_0 a1_1 b2.1 b2.2) rfl rfl fun b14 => ?_
  show Sy.den F K _ _ [.int a0_0, .int a0_1, .int a1_0, .int a1_1, .int a2, .bool b0, .int b1.1, .int b1.2, .int b2.1, .int b2.2, .bool b3, .bool b4, .bool b5, .bool b6, .bool b7, .bool b8, .bool b9, .bool b10, .bool b11, .bool b12, .bool b13, .bool b14] = _
  refine den_ite (b := b14) rfl ?_ ?_
  refine den_ask (ps := [.int a0_0, .int a0_1, .int a1_0, .int a1_1]) (rr := span_Within.rr) (G := span_Within.f a0_0 a0_1 a1_0 a1_1) (by rw [h18]; exact span_Within.ap a0_0 a0_1 a1_0 a1_1) rfl rfl fun b15 => ?_
  show Sy.den F K _ _ [.int a0_0, .int a0_1, .int a1_0, .int a1_1, .int a2, .bool b0, .int b1.1, .int b1.2, .int b2.1, .int b2.2, .bool b3, .bool b4, .bool b5, .bool b6, .bool b7, .bool b8, .bool b9, .bool b10, .bool b11, .bool b12, .bool b13, .bool b14, .bool b15] = _
  refine den_ite (b := (!b15)) rfl ?_ ?_
  exact den_ret rfl
  exact den_ret rfl
  exact den_ret rfl
  exact den_ret rfl
  exact den_ret rfl
  exact den_ret rfl
  exact den_ret rfl
  refine den_ask (ps := [.int b1.1, .int b1.2]) (rr := gatherumlaw03_empty.rr) (G := gatherumlaw03_empty.f b1.1 b1.2) (by rw [h14]; exact gatherumlaw03_empty.ap b1.1 b1.2) rfl rfl fun b9 => ?_
  show Sy.den F K _ _ [.int a0_0, .int a0_1, .int a1_0, .int a1_1, .int a2, .bool b0, .int b1.1, .int b1.2, .int b2.1, .int b2.2, .bool b3, .bool b4, .bool b5, .bool b6, .bool b7, .bool b8, .bool b9] = _
  refine den_ite (b := b9) rfl ?_ ?_
  refine den_ite (b := (!((b1.1 == 0) && (b1.2 == 0)))) rfl ?_ ?_
  exact den_ret rfl
  refine den_ask (ps := [.int a0_0, .int a0_1, .int a1_0, .int a1_1]) (rr := span_Apart.rr) (G := span_Apart.f a0_0 a0_1 a1_0 a1_1) (by rw [h23]; exact span_Apart.ap a0_0 a0_1 a1_0 a1_1) rfl rfl fun b10 => ?_
  show Sy.den F K _ _ [.int a0_0, .int a0_1, .int a1_0, .int a1_1, .int a2, .bool b0, .int b1.1, .int b1.2, .int b2.1, .int b2.2, .bool b3, .bool b4, .bool b5, .bool b6, .bool b7, .bool b8, .bool b9, .bool b10] = _
  refine den_ite (b := (!(b10 == b9))) rfl ?_ ?_
  exact den_ret rfl
  refine den_ite (b := b6) rfl ?_ ?_
  refine den_ask (ps := [.int a1_0, .int a1_1]) (rr := gatherumlaw03_empty.rr) (G := gatherumlaw03_empty.f a1_0 a1_1) (by rw [h14]; exact gatherumlaw03_empty.ap a1_0 a1_1) rfl rfl fun b11 => ?_
  show Sy.den F K _ _ [.int a0_0, .int a0_1, .int a1_0, .int a1_1, .int a2, .bool b0, .int b1.1, .int b1.2, .int b2.1, .int b2.2, .bool b3, .bool b4, .bool b5, .bool b6, .bool b7, .bool b8, .bool b9, .bool b10, .bool b11] = _
  refine den_ite (b := b11) rfl ?_ ?_
  exact den_ret rfl
  refine den_ite (b := (b2.1 == a0_0)) rfl ?_ ?_
  refine den_ite (b := (b2.1 == a1_0)) rfl ?_ ?_
  refine den_ite (b := (b2.2 == a0_1)) rfl ?_ ?_
  refine den_ite (b := (b2.2 == a1_1)) rfl ?_ ?_
  refine den_ask (ps := [.int a0_0, .int a0_1, .int b2.1, .int b2.2]) (rr := span_Within.rr) (G := span_Within.f a0_0 a0_1 b2.1 b2.2) (by rw [h18]; exact span_Within.ap a0_0 a0_1 b2.1 b2.2) rfl rfl fun b12 => ?_
  show Sy.den F K _ _ [.int a0_0, .int a0_1, .int a1_0, .int a1_1, .int a2, .bool b0, .int b1.1, .int b1.2, .int b2.1, .int b2.2, .bool b3, .bool b4, .bool b5, .bool b6, .bool b7, .bool b8, .bool b9, .bool b10, .bool b11, .bool b12] = _
  refine den_ite (b := b12) rfl ?_ ?_
  refine den_ask (ps := [.int a1_0, .int a1_1, .int b2.1, .int b2.2]) (rr := span_Within.rr) (G := span_Within.f a1_0 a1_1 b2.1 b2.2) (by rw [h18]; exact span_Within.ap a1_0 a1_1 b2.1 b2.2) rfl rfl fun b13 => ?_
  show Sy.den F K _ _ [.int a0_0, .int a0_1, .int a1_0, .int a1_1, .int a2, .bool b0, .int b1.1, .int b1.2, .int b2.1, .int b2.2, .bool b3, .bool b4, .bool b5, .bool b6, .bool b7, .bool b8, .bool b9, .bool b10, .bool b11, .bool b12, .bool b13] = _
  refine den_ite (b := b13) rfl ?_ ?_
  refine den_ask (ps := [.int a0_0, .int a0_1, .int a1_0, .int a1_1]) (rr := span_Within.rr) (G := span_Within.f a0_0 a0_1 a1_0 a1_1) (by rw [h18]; exact span_Within.ap a0_0 a0_1 a1_0 a1_1) rfl rfl fun b14 => ?_
  show Sy.den F K _ _ [.int a0_0, .int a0_1, .int a1_0, .int a1_1, .int a2, .bool b0, .int b1.1, .int b1.2, .int b2.1, .int b2.2, .bool b3, .bool b4, .bool b5, .bool b6, .bool b7, .bool b8, .bool b9, .bool b10, .bool b11, .bool b12, .bool b13, .bool b14] = _
  refine den_ite (b := (!b14)) rfl ?_ ?_
  exact den_ret rfl
  exact den_ret rfl
  exact den_ret rfl
  exact den_ret rfl
  exact den_ret rfl
  refine den_ite (b := (b2.2 == a1_1)) rfl ?_ ?_
  refine den_ask (ps := [.int a0_0, .int a0_1, .int b2.1, .int b2.2]) (rr := span_Within.rr) (G := span_Within.f a0_0 a0_1 b2.1 b2.2) (by rw [h18]; exact span_Within.ap a0_0 a0_1 b2.1 b2.2) rfl rfl fun b12 => ?_
  show Sy.den F K _ _ [.int a0_0, .int a0_1, .int a1_0, .int a1_1, .int a2, .bool b0, .int b1.1, .int b1.2, .int b2.1, .int b2.2, .bool b3, .bool b4, .bool b5, .bool b6, .bool b7, .bool b8, .bool b9, .bool b10, .bool b11, .bool b12] = _
  refine den_ite (b := b12) rfl ?_ ?_
  refine den_ask (ps := [.int a1_0, .int a1_1, .int b2.1, .int b2.2]) (rr := span_Within.rr) (G := span_Within.f a1_0 a1_1 b2.1 b2.2) (by rw [h18]; exact span_Within.ap a1_0 a1_1 b2.1 b2.2) rfl rfl fun b13 => ?_
  show Sy.den F K _ _ [.int a0_0, .int a0_1, .int a1_0, .int a1_1, .int a2, .bool b0, .int b1.1, .int b1.2, .int b2.1, .int b2.2, .bool b3, .bool b4, .bool b5, .bool b6, .bool b7, .bool b8, .bool b9, .bool b10, .bool b11, .bool b12, .bool b13] = _
  refine den_ite (b := b13) rfl ?_ ?_
  refine den_ask (ps := [.int a0_0, .int a0_1, .int a1_0, .int a1_1]) (rr := span_Within.rr) (G := span_Within.f a0_0 a0_1 a1_0 a1_1) (by rw [h18]; exact span_Within.ap a0_0 a0_1 a1_0 a1_1) rfl rfl fun b14 => ?_
  show Sy.den F K _ _ [.int a0_0, .int a0_1, .int a1_0, .int a1_1, .int a2, .bool b0, .int b1.1, .int b1.2, .int b2.1, .int b2.2, .bool b3, .bool b4, .bool b5, .bool b6, .bool b7, .bool b8, .bool b9, .bool b10, .bool b11, .bool b12, .bool b13, .bool b14] = _
  refine den_ite (b := (!b14)) rfl ?_ ?_
  exact den_ret rfl
  exact den_ret rfl
  exact den_ret rfl
  exact den_ret rfl
  exact den_ret rfl
  exact den_ret rfl
  refine den_ite (b := (b2.1 == a1_0)) rfl ?_ ?_
  refine den_ite (b := (b2.2 == a0_1)) rfl ?_ ?_
  refine den_ite (b := (b2.2 == a1_1)) rfl ?_ ?_
  refine den_ask (ps := [.int a0_0, .int a0_1, .int b2.1, .int b2.2]) (rr := span_Within.rr) (G := span_Within.f a0_0 a0_1 b2.1 b2.2) (by rw [h18]; exact span_Within.ap a0_0 a0_1 b2.1 b2.2) rfl rfl fun b12 => ?_
  show Sy.den F K _ _ [.int a0_0, .int a0_1, .int a1_0, .int a1_1, .int a2, .bool b0, .int b1.1, .int b1.2, .int b2.1, .int b2.2, .bool b3, .bool b4, .bool b5, .bool b6, .bool b7, .bool b8, .bool b9, .bool b10, .bool b11, .bool b12] = _
  refine den_ite (b := b12) rfl ?_ ?_
  refine den_ask (ps := [.int a1_0, .int a1_1, .int b2.1, .int b2.2]) (rr := span_Within.rr) (G := span_Within.f a1_0 a1_1 b2.1 b2.2) (by rw [h18]; exact span_Within.ap a1_0 a1_1 b2.1 b2.2) rfl rfl fun b13 => ?_
  show Sy.den F K _ _ [.int a0_0, .int a0_1, .int a1_0, .int a1_1, .int a2, .bool b0, .int b1.1, .int b1.2, .int b2.1, .int b2.2, .bool b3, .bool b4, .bool b5, .bool b6, .bool b7, .bool b8, .bool b9, .bool b10, .bool b11, .bool b12, .bool b13] = _
  refine den_ite (b := b13) rfl ?_ ?_
  refine den_ask (ps := [.int a0_0, .int a0_1, .int a1_0, .int a1_1]) (rr := span_Within.rr) (G := span_Within.f a0_0 a0_1 a1_0 a1_1) (by rw [h18]; exact span_Within.ap a0_0 a0_1 a1_0 a1_1) rfl rfl fun b14 => ?_
  show Sy.den F K _ _ [.int a0_0, .int a0_1, .int a1_0, .int a1_1, .int a2, .bool b0, .int b1.1, .int b1.2, .int b2.1, .int b2.2, .bool b3, .bool b4, .bool b5, .bool b6, .bool b7, .bool b8, .bool b9, .bool b10, .bool b11, .bool b12, .bool b13, .bool b14] = _
  refine den_ite (b := (!b14)) rfl ?_ ?_
  exact den_ret rfl
  exact den_ret rfl
  exact den_ret rfl
  exact den_ret rfl
  exact den_ret rfl
  refine den_ite (b := (b2.2 == a1_1)) rfl ?_ ?_
  refine den_ask (ps := [.int a0_0, .int a0_1, .int b2.1, .int b2.2]) (rr := span_Within.rr) (G := span_Within.f a0_0 a0_1 b2.1 b2.2) (by rw [h18]; exact span_Within.ap a0_0 a0_1 b2.1 b2.2) rfl rfl fun b12 => ?_
  show Sy.den F K _ _ [.int a0_0, .int a0_1, .int a1_0, .int a1_1, .int a2, .bool b0, .int b1.1, .int b1.2, .int b2.1, .int b2.2, .bool b3, .bool b4, .bool b5, .bool b6, .bool b7, .bool b8, .bool b9, .bool b10, .bool b11, .bool b12] = _
  refine den_ite (b := b12) rfl ?_ ?_
  refine den_ask (ps := [.int a1_0, .int a1_1, .int b2.1, .int b2.2]) (rr := span_Within.rr) (G := span_Within.f a1_0 a1_1 b2.1 b2.2) (by rw [h18]; exact span_Within.ap a1_0 a1_1 b2.1 b2.2) rfl rfl fun b13 => ?_
  show Sy.den F K _ _ [.int a0_0, .int a0_1, .int a1_0, .int a1_1, .int a2, .bool b0, .int b1.1, .int b1.2, .int b2.1, .int b2.2, .bool b3, .bool b4, .bool b5, .bool b6, .bool b7, .bool b8, .bool b9, .bool b10, .bool b11, .bool b12, .bool b13] = _
  refine den_ite (b := b13) rfl ?_ ?_
  refine den_ask (ps := [.int a0_0, .int a0_1, .int a1_0, .int a1_1]) (rr := span_Within.rr) (G := span_Within.f a0_0 a0_1 a1_0 a1_1) (by rw [h18]; exact span_Within.ap a0_0 a0_1 a1_0 a1_1) rfl rfl fun b14 => ?_
  show Sy.den F K _ _ [.int a0_0, .int a0_1, .int a1_0, .int a1_1, .int a2, .bool b0, .int b1.1, .int b1.2, .int b2.1, .int b2.2, .bool b3, .bool b4, .bool b5, .bool b6, .bool b7, .bool b8, .bool b9, .bool b10, .bool b11, .bool b12, .bool b13, .bool b14] = _
  refine den_ite (b := (!b14)) rfl ?_ ?_
  exact den_ret rfl
  exact den_ret rfl
  exact den_ret rfl
  exact den_ret rfl
  exact den_ret rfl
  exact den_ret rfl
  refine den_ite (b := (b2.1 == a0_0)) rfl ?_ ?_
  refine den_ite (b := (b2.2 == a0_1)) rfl ?_ ?_
  refine den_ask (ps := [.int a0_0, .int a0_1, .int b2.1, .int b2.2]) (rr := span_Within.rr) (G := span_Within.f a0_0 a0_1 b2.1 b2.2) (by rw [h18]; exact span_Within.ap a0_0 a0_1 b2.1 b2.2) rfl rfl fun b11 => ?_
  show Sy.den F K _ _ [.int a0_0, .int a0_1, .int a1_0, .int a1_1, .int a2, .bool b0, .int b1.1, .int b1.2, .int b2.1, .int b2.2, .bool b3, .bool b4, .bool b5, .bool b6, .bool b7, .bool b8, .bool b9, .bool b10, .bool b11] = _
  refine den_ite (b := b11) rfl ?_ ?_
  refine den_ask (ps := [.int a1_0, .int a1_1, .int b2.1, .int b2.2]) (rr := span_Within.rr) (G := span_Within.f a1_0 a1_1 b2.1 b2.2) (by rw [h18]; exact span_Within.ap a1_0 a1_1 b2.1 b2.2) rfl rfl fun b12 => ?_
  show Sy.den F K _ _ [.int a0_0, .int a0_1, .int a1_0, .int a1_1, .int a2, .bool b0, .int b1.1, .int b1.2, .int b2.1, .int b2.2, .bool b3, .bool b4, .bool b5, .bool b6, .bool b7, .bool b8, .bool b9, .bool b10, .bool b11, .bool b12] = _
  refine den_ite (b := b12) rfl ?_ ?_
  refine den_ask (ps := [.int a0_0, .int a0_1, .int a1_0, .int a1_1]) (rr := span_Within.rr) (G := span_Within.f a0_0 a0_1 a1_0 a1_1) (by rw [h18]; exact span_Within.ap a0_0 a0_1 a1_0 a1_1) rfl rfl fun b13 => ?_
  show Sy.den F K _ _ [.int a0_0, .int a0_1, .int a1_0, .int a1_1, .int a2, .bool b0, .int b1.1, .int b1.2, .int b2.1, .int b2.2, .bool b3, .bool b4, .bool b5, .bool b6, .bool b7, .bool b8, .bool b9, .bool b10, .bool b11, .bool b12, .bool b13] = _
  refine den_ite (b := (!b13)) rfl ?_ ?_
  exact den_ret rfl
  exact den_ret rfl
  exact den_ret rfl
  exact den_ret rfl
  refine den_ite (b := (b2.2 == a1_1)) rfl ?_ ?_
  refine den_ask (ps := [.int a1_0, .int a1_1]) (rr := gatherumlaw03_empty.rr) (G := gatherumlaw03_empty.f a1_0 a1_1) (by rw [h14]; exact gatherumlaw03_empty.ap a1_0 a1_1) rfl rfl fun b11 => ?_
  show Sy.den F K _ _ [.int a0_0, .int a0_1, .int a1_0, .int a1_1, .int a2, .bool b0, .int b1.1, .int b1.2, .int b2.1, .int b2.2, .bool b3, .bool b4, .bool b5, .bool b6, .bool b7, .bool b8, .bool b9, .bool b10, .bool b11] = _
  refine den_ite (b := (!b11)) rfl ?_ ?_
  refine den_ask (ps := [.int a0_0, .int a0_1, .int b2.1, .int b2.2]) (rr := span_Within.rr) (G := span_Within.f a0_0 a0_1 b2.1 b2.2) (by rw [h18]; exact span_Within.ap a0_0 a0_1 b2.1 b2.2) rfl rfl fun b12 => ?_
  show Sy.den F K _ _ [.int a0_0, .int a0_1, .int a1_0, .int a1_1, .int a2, .bool b0, .int b1.1, .int b1.2, .int b2.1, .int b2.2, .bool b3, .bool b4, .bool b5, .bool b6, .bool b7, .bool b8, .bool b9, .bool b10, .bool b11, .bool b12] = _
  refine den_ite (b := b12) rfl ?_ ?_
  refine den_ask (ps := [.int a1_0, .int a1_1, .int b2.1, .int b2.2]) (rr := span_Within.rr) (G := span_Within.f a1_0 a1_1 b2.1 b2.2) (by rw [h18]; exact span_Within.ap a1_0 a1_1 b2.1 b2.2) rfl rfl fun b13 => ?_
  show Sy.den F K _ _ [.int a0_0, .int a0_1, .int a1_0, .int a1_1, .int a2, .bool b0, .int b1.1, .int b1.2, .int b2.1, .int b2.2, .bool b3, .bool b4, .bool b5, .bool b6, .bool b7, .bool b8, .bool b9, .bool b10, .bool b11, .bool b12, .bool b13] = _
  refine den_ite (b := b13) rfl ?_ ?_
  refine den_ask (ps := [.int a0_0, .int a0_1, .int a1_0, .int a1_1]) (rr := span_Within.rr) (G := span_Within.f a0_0 a0_1 a1_0 a1_1) (by rw [h18]; exact span_Within.ap a0_0 a0_1 a1_0 a1_1) rfl rfl fun b14 => ?_
  show Sy.den F K _ _ [.int a0_0, .int a0_1, .int a1_0, .int a1_1, .int a2, .bool b0, .int b1.1, .int b1.2, .int b2.1, .int b2.2, .bool b3, .bool b4, .bool b5, .bool b6, .bool b7, .bool b8, .bool b9, .bool b10, .bool b11, .bool b12, .bool b13, .bool b14] = _
  refine den_ite (b := (!b14)) rfl ?_ ?_
  exact den_ret rfl
  exact den_ret rfl
  exact den_ret rfl
  exact den_ret rfl
  exact den_ret rfl
  exact den_ret rfl
  refine den_ite (b := (b2.1 == a1_0)) rfl ?_ ?_
  refine den_ask (ps := [.int a1_0, .int a1_1]) (rr := gatherumlaw03_empty.rr) (G := gatherumlaw03_empty.f a1_0 a1_1) (by rw [h14]; exact gatherumlaw03_empty.ap a1_0 a1_1) rfl rfl fun b11 => ?_
  show Sy.den F K _ _ [.int a0_0, .int a0_1, .int a1_0, .int a1_1, .int a2, .bool b0, .int b1.1, .int b1.2, .int b2.1, .int b2.2, .bool b3, .bool b4, .bool b5, .bool b6, .bool b7, .bool b8, .bool b9, .bool b10, .bool b11] = _
  refine den_ite (b := (!b11)) rfl ?_ ?_
  refine den_ite (b := (b2.2 == a0_1)) rfl ?_ ?_
  refine den_ask (ps := [.int a0_0, .int a0_1, .int b2.1, .int b2.2]) (rr := span_Within.rr) (G := span_Within.f a0_0 a0_1 b2.1 b2.2) (by rw [h18]; exact span_Within.ap a0_0 a0_1 b2.1 b2.2) rfl rfl fun b12 => ?_
  show Sy.den F K _ _ [.int a0_0, .int a0_1, .int a1_0, .int a1_1, .int a2, .bool b0, .int b1.1, .int b1.2, .int b2.1, .int b2.2, .bool b3, .bool b4, .bool b5, .bool b6, .bool b7, .bool b8, .bool b9, .bool b10, .bool b11, .bool b12] = _
  refine den_ite (b := b12) rfl ?_ ?_
  refine den_ask (ps := [.int a1_0, .int a1_1, .int b2.1, .int b2.2]) (rr := span_Within.rr) (G := span_Within.f a1_0 a1_1 b2.1 b2.2) (by rw [h18]; exact span_Within.ap a1_0 a1_1 b2.1 b2.2) rfl rfl fun b13 => ?_
  show Sy.den F K _ _ [.int a0_0, .int a0_1, .int a1_0, .int a1_1, .int a2, .bool b0, .int b1.1, .int b1.2, .int b2.1, .int b2.2, .bool b3, .bool b4, .bool b5, .bool b6, .bool b7, .bool b8, .bool b9, .bool b10, .bool b11, .bool b12, .bool b13] = _
  refine den_ite (b := b13) rfl ?_ ?_
  refine den_ask (ps := [.int a0_0, .int a0_1, .int a1_0, .int a1_1]) (rr := span_Within.rr) (G := span_Within.f a0_0 a0_1 a1_0 a1_1) (by rw [h18]; exact span_Within.ap a0_0 a0_1 a1_0 a1_1) rfl rfl fun b14 => ?_
  show Sy.den F K _ _ [.int a0_0, .int a0_1, .int a1_0, .int a1_1, .int a2, .bool b0, .int b1.1, .int b1.2, .int b2.1, .int b2.2, .bool b3, .bool b4, .bool b5, .bool b6, .bool b7, .bool b8, .bool b9, .bool b10, .bool b11, .bool b12, .bool b13, .bool b14] = _
  refine den_ite (b := (!b14)) rfl ?_ ?_
  exact den_ret rfl
  exact den_ret rfl
  exact den_ret rfl
  exact den_ret rfl
  refine den_ite (b := (b2.2 == a1_1)) rfl ?_ ?_
  refine den_ask (ps := [.int a0_0, .int a0_1, .int b2.1, .int b2.2]) (rr := span_Within.rr) (G := span_Within.f a0_0 a0_1 b2.1 b2.2) (by rw [h18]; exact span_Within.ap a0_0 a0_1 b2.1 b2.2) rfl rfl fun b12 => ?_
  show Sy.den F K _ _ [.int a0_0, .int a0_1, .int a1_0, .int a1_1, .int a2, .bool b0, .int b1.1, .int b1.2, .int b2.1, .int b2.2, .bool b3, .bool b4, .bool b5, .bool b6, .bool b7, .bool b8, .bool b9, .bool b10, .bool b11, .bool b12] = _
  refine den_ite (b := b12) rfl ?_ ?_
  refine den_ask (ps := [.int a1_0, .int a1_1, .int b2.1, .int b2.2]) (rr := span_Within.rr) (G := span_Within.f a1_0 a1_1 b2.1 b2.2) (by rw [h18]; exact span_Within.ap a1_0 a1_1 b2.1 b2.2) rfl rfl fun b13 => ?_
  show Sy.den F K _ _ [.int a0_0, .int a0_1, .int a1_0, .int a1_1, .int a2, .bool b0, .int b1.1, .int b1.2, .int b2.1, .int b2.2, .bool b3, .bool b4, .bool b5, .bool b6, .bool b7, .bool b8, .bool b9, .bool b10, .bool b11, .bool b12, .bool b13] = _
  refine den_ite (b := b13) rfl ?_ ?_
  refine den_ask (ps := [.int a0_0, .int a0_1, .int a1_0, .int a1_1]) (rr := span_Within.rr) (G := span_Within.f a0_0 a0_1 a1_0 a1_1) (by rw [h18]; exact span_Within.ap a0_0 a0_1 a1_0 a1_1) rfl rfl fun b14 => ?_
  show Sy.den F K _ _ [.int a0_0, .int a0_1, .int a1_0, .int a1_1, .int a2, .bool b0, .int b1.1, .int b1.2, .int b2.1, .int b2.2, .bool b3, .bool b4, .bool b5, .bool b6, .bool b7, .bool b8, .bool b9, .bool b10, .bool b11, .bool b12, .bool b13, .bool b14] = _
  refine den_ite (b := (!b14)) rfl ?_ ?_
  exact den_ret rfl
  exact den_ret rfl
  exact den_ret rfl
  exact den_ret rfl
  exact den_ret rfl
  exact den_ret rfl
  exact den_ret rfl
  refine den_ask (ps := [.int a0_0, .int a0_1, .int a1_0, .int a1_1]) (rr := span_Apart.rr) (G := span_Apart.f a0_0 a0_1 a1_0 a1_1) (by rw [h23]; exact span_Apart.ap a0_0 a0_1 a1_0 a1_1) rfl rfl fun b10 => ?_
  show Sy.den F K _ _ [.int a0_0, .int a0_1, .int a1_0, .int a1_1, .int a2, .bool b0, .int b1.1, .int b1.2, .int b2.1, .int b2.2, .bool b3, .bool b4, .bool b5, .bool b6, .bool b7, .bool b8, .bool b9, .bool b10] = _
  refine den_ite (b := (!(b10 == b9))) rfl ?_ ?_
  exact den_ret rfl
  refine den_ite (b := b6) rfl ?_ ?_
  refine den_ask (ps := [.int a1_0, .int a1_1]) (rr := gatherumlaw03_empty.rr) (G := gatherumlaw03_empty.f a1_0 a1_1) (by rw [h14]; exact gatherumlaw03_empty.ap a1_0 a1_1) rfl rfl fun b11 => ?_
  show Sy.den F K _ _ [.int a0_0, .int a0_1, .int a1_0, .int a1_1, .int a2, .bool b0, .int b1.1, .int b1.2, .int b2.1, .int b2.2, .bool b3, .bool b4, .bool b5, .bool b6, .bool b7, .bool b8, .bool b9, .bool b10, .bool b11] = _
  refine den_ite (b := b11) rfl ?_ ?_
  exact den_ret rfl
  refine den_ite (b := (b2.1 == a0_0)) rfl ?_ ?_
  refine den_ite (b := (b2.1 == a1_0)) rfl ?_ ?_
  refine den_ite (b := (b2.2 == a0_1)) rfl ?_ ?_
  refine den_ite (b := (b2.2 == a1_1)) rfl ?_ ?_
  refine den_ask (ps := [.int a0_0, .int a0_1, .int b2.1, .int b2.2]) (rr := span_Within.rr) (G := span_Within.f a0_0 a0_1 b2.1 b2.2) (by rw [h18]; exact span_Within.ap a0_0 a0_1 b2.1 b2.2) rfl rfl fun b12 => ?_
  show Sy.den F K _ _ [.int a0_0, .int a0_1, .int a1_0, .int a1_1, .int a2, .bool b0, .int b1.1, .int b1.2, .int b2.1, .int b2.2, .bool b3, .bool b4, .bool b5, .bool b6, .bool b7, .bool b8, .bool b9, .bool b10, .bool b11, .bool b12] = _
  refine den_ite (b := b12) rfl ?_ ?_
  refine den_ask (ps := [.int a1_0, .int a1_1, .int b2.1, .int b2.2]) (rr := span_Within.rr) (G := span_Within.f a1_0 a1_1 b2.1 b2.2) (by rw [h18]; exact span_Within.ap a1_0 a1_1 b2.1 b2.2) rfl rfl fun b13 => ?_
  show Sy.den F K _ _ [.int a0_0, .int a0_1, .int a1_0, .int a1_1, .int a2, .bool b0, .int b1.1, .int b1.2, .int b2.1, .int b2.2, .bool b3, .bool b4, .bool b5, .bool b6, .bool b7, .bool b8, .bool b9, .bool b10, .bool b11, .bool b12, .bool b13] = _
  refine den_ite (b := b13) rfl ?_ ?_
  refine den_ask (ps := [.int a0_0, .int a0_1, .int a1_0, .int a1_1]) (rr := span_Within.rr) (G := span_Within.f a0_0 a0_1 a1_0 a1_1) (by rw [h18]; exact span_Within.ap a0_0 a0_1 a1_0 a1_1) rfl rfl fun b14 => ?_
  show Sy.den F K _ _ [.int a0_0, .int a0_1, .int a1_0, .int a1_1, .int a2, .bool b0, .int b1.1, .int b1.2, .int b2.1, .int b2.2, .bool b3, .bool b4, .bool b5, .bool b6, .bool b7, .bool b8, .bool b9, .bool b10, .bool b11, .bool b12, .bool b13, .bool b14] = _
  refine den_ite (b := (!b14)) rfl ?_ ?_
  exact den_ret rfl
  exact den_ret rfl
  exact den_ret rfl
  exact den_ret rfl
  exact den_ret rfl
  refine den_ite (b := (b2.2 == a1_1)) rfl ?_ ?_
  refine den_ask (ps := [.int a0_0, .int a0_1, .int b2.1, .int b2.2]) (rr := span_Within.rr) (G := span_Within.f a0_0 a0_1 b2.1 b2.2) (by rw [h18]; exact span_Within.ap a0_0 a0_1 b2.1 b2.2) rfl rfl fun b12 => ?_
  show Sy.den F K _ _ [.int a0_0, .int a0_1, .int a1_0, .int a1_1, .int a2, .bool b0, .int b1.1, .int b1.2, .int b2.1, .int b2.2, .bool b3, .bool b4, .bool b5, .bool b6, .bool b7, .bool b8, .bool b9, .bool b10, .bool b11, .bool b12] = _
  refine den_ite (b := b12) rfl ?_ ?_
  refine den_ask (ps := [.int a1_0, .int a1_1, .int b2.1, .int b2.2]) (rr := span_Within.rr) (G := span_Within.f a1_0 a1_1 b2.1 b2.2) (by rw [h18]; exact span_Within.ap a1_0 a1_1 b2.1 b2.2) rfl rfl fun b13 => ?_
  show Sy.den F K _ _ [.int a0_0, .int a0_1, .int a1_0, .int a1_1, .int a2, .bool b0, .int b1.1, .int b1.2, .int b2.1, .int b2.2, .bool b3, .bool b4, .bool b5, .bool b6, .bool b7, .bool b8, .bool b9, .bool b10, .bool b11, .bool b12, .bool b13] = _
  refine den_ite (b := b13) rfl ?_ ?_
  refine den_ask (ps := [.int a0_0, .int a0_1, .int a1_0, .int a1_1]) (rr := span_Within.rr) (G := span_Within.f a0_0 a0_1 a1_0 a1_1) (by rw [h18]; exact span_Within.ap a0_0 a0_1 a1_0 a1_1) rfl rfl fun b14 => ?_
  show Sy.den F K _ _ [.int a0_0, .int a0_1, .int a1_0, .int a1_1, .int a2, .bool b0, .int b1.1, .int b1.2, .int b2.1, .int b2.2, .bool b3, .bool b4, .bool b5, .bool b6, .bool b7, .bool b8, .bool b9, .bool b10, .bool b11, .bool b12, .bool b13, .bool b14] = _
  refine den_ite (b := (!b14)) rfl ?_ ?_
  exact den_ret rfl
  exact den_ret rfl
  exact den_ret rfl
  exact den_ret rfl
  exact den_ret rfl
  exact den_ret rfl
  refine den_ite (b := (b2.1 == a1_0)) rfl ?_ ?_
  refine den_ite (b := (b2.2 == a0_1)) rfl ?_ ?_
  refine den_ite (b := (b2.2 == a1_1)) rfl ?_ ?_
  refine den_ask (ps := [.int a0_0, .int a0_1, .int b2.1, .int b2.2]) (rr := span_Within.rr) (G := span_Within.f a0_0 a0_1 b2.1 b2.2) (by rw [h18]; exact span_Within.ap a0_0 a0_1 b2.1 b2.2) rfl rfl fun b12 => ?_
  show Sy.den F K _ _ [.int a0_0, .int a0_1, .int a1_0, .int a1_1, .int a2, .bool b0, .int b1.1, .int b1.2, .int b2.1, .int b2.2, .bool b3, .bool b4, .bool b5, .bool b6, .bool b7, .bool b8, .bool b9, .bool b10, .bool b11, .bool b12] = _
  refine den_ite (b := b12) rfl ?_ ?_
  refine den_ask (ps := [.int a1_0, .int a1_1, .int b2.1, .int b2.2]) (rr := span_Within.rr) (G := span_Within.f a1_0 a1_1 b2.1 b2.2) (by rw [h18]; exact span_Within.ap a1_0 a1_1 b2.1 b2.2) rfl rfl fun b13 => ?_
  show Sy.den F K _ _ [.int a0_0, .int a0_1, .int a1_0, .int a1_1, .int a2, .bool b0, .int b1.1, .int b1.2, .int b2.1, .int b2.2, .bool b3, .bool b4, .bool b5, .bool b6, .bool b7, .bool b8, .bool b9, .bool b10, .bool b11, .bool b12, .bool b13] = _
  refine den_ite (b := b13) rfl ?_ ?_
  refine den_ask (ps := [.int a0_0, .int a0_1, .int a1_0, .int a1_1]) (rr := span_Within.rr) (G := span_Within.f a0_0 a0_1 a1_0 a1_1) (by rw [h18]; exact span_Within.ap a0_0 a0_1 a1_0 a1_1) rfl rfl fun b14 => ?_
  show Sy.den F K _ _ [.int a0_0, .int a0_1, .int a1_0, .int a1_1, .int a2, .bool b0, .int b1.1, .int b1.2, .int b2.1, .int b2.2, .bool b3, .bool b4, .bool b5, .bool b6, .bool b7, .bool b8, .bool b9, .bool b10, .bool b11, .bool b12, .bool b13, .bool b14] = _
  refine den_ite (b := (!b14)) rfl ?_ ?_
  exact den_ret rfl
  exact den_ret rfl
  exact den_ret rfl
  exact den_ret rfl
  exact den_ret rfl
  refine den_ite (b := (b2.2 == a1_1)) rfl ?_ ?_
  refine den_ask (ps := [.int a0_0, .int a0_1, .int b2.1, .int b2.2]) (rr := span_Within.rr) (G := span_Within.f a0_0 a0_1 b2.1 b2.2) (by rw [h18]; exact span_Within.ap a0_0 a0_1 b2.1 b2.2) rfl rfl fun b12 => ?_
  show Sy.den F K _ _ [.int a0_0, .int a0_1, .int a1_0, .int a1_1, .int a2, .bool b0, .int b1.1, .int b1.2, .int b2.1, .int b2.2, .bool b3, .bool b4, .bool b5, .bool b6, .bool b7, .bool b8, .bool b9, .bool b10, .bool b11, .bool b12] = _
  refine den_ite (b := b12) rfl ?_ ?_
  refine den_ask (ps := [.int a1_0, .int a1_1, .int b2.1, .int b2.2]) (rr := span_Within.rr) (G := span_Within.f a1_0 a1_1 b2.1 b2.2) (by rw [h18]; exact span_Within.ap a1_0 a1_1 b2.1 b2.2) rfl rfl fun b13 => ?_
  show Sy.den F K _ _ [.int a0_0, .int a0_1, .int a1_0, .int a1_1, .int a2, .bool b0, .int b1.1, .int b1.2, .int b2.1, .int b2.2, .bool b3, .bool b4, .bool b5, .bool b6, .bool b7, .bool b8, .bool b9, .bool b10, .bool b11, .bool b12, .bool b13] = _
  refine den_ite (b := b13) rfl ?_ ?_
  refine den_ask (ps := [.int a0_0, .int a0_1, .int a1_0, .int a1_1]) (rr := span_Within.rr) (G := span_Within.f a0_0 a0_1 a1_0 a1_1) (by rw [h18]; exact span_Within.ap a0_0 a0_1 a1_0 a1_1) rfl rfl fun b14 => ?_
  show Sy.den F K _ _ [.int a0_0, .int a0_1, .int a1_0, .int a1_1, .int a2, .bool b0, .int b1.1, .int b1.2, .int b2.1, .int b2.2, .bool b3, .bool b4, .bool b5, .bool b6, .bool b7, .bool b8, .bool b9, .bool b10, .bool b11, .bool b12, .bool b13, .bool b14] = _
  refine den_ite (b := (!b14)) rfl ?_ ?_
  exact den_ret rfl
  exact den_ret rfl
  exact den_ret rfl
  exact den_ret rfl
  exact den_ret rfl
  exact den_ret rfl
  refine den_ite (b := (b2.1 == a0_0)) rfl ?_ ?_
  refine den_ite (b := (b2.2 == a0_1)) rfl ?_ ?_
  refine den_ask (ps := [.int a0_0, .int a0_1, .int b2.1, .int b2.2]) (rr := span_Within.rr) (G := span_Within.f a0_0 a0_1 b2.1 b2.2) (by rw [h18]; exact span_Within.ap a0_0 a0_1 b2.1 b2.2) rfl rfl fun b11 => ?_
  show Sy.den F K _ _ [.int a0_0, .int a0_1, .int a1_0, .int a1_1, .int a2, .bool b0, .int b1.1, .int b1.2, .int b2.1, .int b2.2, .bool b3, .bool b4, .bool b5, .bool b6, .bool b7, .bool b8, .bool b9, .bool b10, .bool b11] = _
  refine den_ite (b := b11) rfl ?_ ?_
  refine den_ask (ps := [.int a1_0, .int a1_1, .int b2.1, .int b2.2]) (rr := span_Within.rr) (G := span_Within.f a1_0 a1_1 b2.1 b2.2) (by rw [h18]; exact span_Within.ap a1_0 a1_1 b2.1 b2.2) rfl rfl fun b12 => ?_
  show Sy.den F K _ _ [.int a0_0, .int a0_1, .int a1_0, .int a1_1, .int a2, .bool b0, .int b1.1, .int b1.2, .int b2.1, .int b2.2, .bool b3, .bool b4, .bool b5, .bool b6, .bool b7, .bool b8, .bool b9, .bool b10, .bool b11, .bool b12] = _
  refine den_ite (b := b12) rfl ?_ ?_
  refine den_ask (ps := [.int a0_0, .int a0_1, .int a1_0, .int a1_1]) (rr := span_Within.rr) (G := span_Within.f a0_0 a0_1 a1_0 a1_1) (by rw [h18]; exact span_Within.ap a0_0 a0_1 a1_0 a1_1) rfl rfl fun b13 => ?_
  show Sy.den F K _ _ [.int a0_0, .int a0_1, .int a1_0, .int a1_1, .int a2, .bool b0, .int b1.1, .int b1.2, .int b2.1, .int b2.2, .bool b3, .bool b4, .bool b5, .bool b6, .bool b7, .bool b8, .bool b9, .bool b10, .bool b11, .bool b12, .bool b13] = _
  refine den_ite (b := (!b13)) rfl ?_ ?_
  exact den_ret rfl
  exact den_ret rfl
  exact den_ret rfl
  exact den_ret rfl
  refine den_ite (b := (b2.2 == a1_1)) rfl ?_ ?_
  refine den_ask (ps := [.int a1_0, .int a1_1]) (rr := gatherumlaw03_empty.rr) (G := gatherumlaw03_empty.f a1_0 a1_1) (by rw [h14]; exact gatherumlaw03_empty.ap a1_0 a1_1) rfl rfl fun b11 => ?_
  show Sy.den F K _ _ [.int a0_0, .int a0_1, .int a1_0, .int a1_1, .int a2, .bool b0, .int b1.1, .int b1.2, .int b2.1, .int b2.2, .bool b3, .bool b4, .bool b5, .bool b6, .bool b7, .bool b8, .bool b9, .bool b10, .bool b11] = _
  refine den_ite (b := (!b11)) rfl ?_ ?_
  refine den_ask (ps := [.int a0_0, .int a0_1, .int b2.1, .int b2.2]) (rr := span_Within.rr) (G := span_Within.f a0_0 a0_1 b2.1 b2.2) (by rw [h18]; exact span_Within.ap a0_0 a0_1 b2.1 b2.2) rfl rfl fun b12 => ?_
  show Sy.den F K _ _ [.int a0_0, .int a0_1, .int a1_0, .int a1_1, .int a2, .bool b0, .int b1.1, .int b1.2, .int b2.1, .int b2.2, .bool b3, .bool b4, .bool b5, .bool b6, .bool b7, .bool b8, .bool b9, .bool b10, .bool b11, .bool b12] = _
  refine den_ite (b := b12) rfl ?_ ?_
  refine den_ask (ps := [.int a1_0, .int a1_1, .int b2.1, .int b2.2]) (rr := span_Within.rr) (G := span_Within.f a1_0 a1_1 b2.1 b2.2) (by rw [h18]; exact span_Within.ap a1_0 a1_1 b2.1 b2.2) rfl rfl fun b13 => ?_
  show Sy.den F K _ _ [.int a0_0, .int a0_1, .int a1_0, .int a1_1, .int a2, .bool b0, .int b1.1, .int b1.2, .int b2.1, .int b2.2, .bool b3, .bool b4, .bool b5, .bool b6, .bool b7, .bool b8, .bool b9, .bool b10, .bool b11, .bool b12, .bool b13] = _
  refine den_ite (b := b13) rfl ?_ ?_
  refine den_ask (ps := [.int a0_0, .int a0_1, .int a1_0, .int a1_1]) (rr := span_Within.rr) (G := span_Within.f a0_0 a0_1 a1_0 a1_1) (by rw [h18]; exact span_Within.ap a0_0 a0_1 a1_0 a1_1) rfl rfl fun b14 => ?_
  show Sy.den F K _ _ [.int a0_0, .int a0_1, .int a1_0, .int a1_1, .int a2, .bool b0, .int b1.1, .int b1.2, .int b2.1, .int b2.2, .bool b3, .bool b4, .bool b5, .bool b6, .bool b7, .bool b8, .bool b9, .bool b10, .bool b11, .bool b12, .bool b13, .bool b14] = _
  refine den_ite (b := (!b14)) rfl ?_ ?_
  exact den_ret rfl
  exact den_ret rfl
  exact den_ret rfl
  exact den_ret rfl
  exact den_ret rfl
  exact den_ret rfl
  refine den_ite (b := (b2.1 == a1_0)) rfl ?_ ?_
  refine den_ask (ps := [.int a1_0, .int a1_1]) (rr := gatherumlaw03_empty.rr) (G := gatherumlaw03_empty.f a1_0 a1_1) (by rw [h14]; exact gatherumlaw03_empty.ap a1_0 a1_1) rfl rfl fun b11 => ?_
  show Sy.den F K _ _ [.int a0_0, .int a0_1, .int a1_0, .int a1_1, .int a2, .bool b0, .int b1.1, .int b1.2, .int b2.1, .int b2.2, .bool b3, .bool b4, .bool b5, .bool b6, .bool b7, .bool b8, .bool b9, .bool b10, .bool b11] = _
  refine den_ite (b := (!b11)) rfl ?_ ?_
  refine den_ite (b := (b2.2 == a0_1)) rfl ?_ ?_
  refine den_ask (ps := [.int a0_0, .int a0_1, .int b2.1, .int b2.2]) (rr := span_Within.rr) (G := span_Within.f a0_0 a0_1 b2.1 b2.2) (by rw [h18]; exact span_Within.ap a0_0 a0_1 b2.1 b2.2) rfl rfl fun b12 => ?_
  show Sy.den F K _ _ [.int a0_0, .int a0_1, .int a1_0, .int a1_1, .int a2, .bool b0, .int b1.1, .int b1.2, .int b2.1, .int b2.2, .bool b3, .bool b4, .bool b5, .bool b6, .bool b7, .bool b8, .bool b9, .bool b10, .bool b11, .bool b12] = _
  refine den_ite (b := b12) rfl ?_ ?_
  refine den_ask (ps := [.int a1_0, .int a1_1, .int b2.1, .int b2.2]) (rr := span_Within.rr) (G := span_Within.f a1_0 a1_1 b2.1 b2.2) (by rw [h18]; exact span_Within.ap a1_0 a1_1 b2.1 b2.2) rfl rfl fun b13 => ?_
  show Sy.den F K _ _ [.int a0_0, .int a0_1, .int a1_0, .int a1_1, .int a2, .bool b0, .int b1.1, .int b1.2, .int b2.1, .int b2.2, .bool b3, .bool b4, .bool b5, .bool b6, .bool b7, .bool b8, .bool b9, .bool b10, .bool b11, .bool b12, .bool b13] = _
  refine den_ite (b := b13) rfl ?_ ?_
  refine den_ask (ps := [.int a0_0, .int a0_1, .int a1_0, .int a1_1]) (rr := span_Within.rr) (G := span_Within.f a0_0 a0_1 a1_0 a1_1) (by rw [h18]; exact span_Within.ap a0_0 a0_1 a1_0 a1_1) rfl rfl fun b14 => ?_
  show Sy.den F K _ _ [.int a0_0, .int a0_1, .int a1_0, .int a1_1, .int a2, .bool b0, .int b1.1, .int b1.2, .int b2.1, .int b2.2, .bool b3, .bool b4, .bool b5, .bool b6, .bool b7, .bool b8, .bool b9, .bool b10, .bool b11, .bool b12, .bool b13, .bool b14] = _
  refine den_ite (b := (!b14)) rfl ?_ ?_
  exact den_ret rfl
  exact den_ret rfl
  exact den_ret rfl
  exact den_ret rfl
  refine den_ite (b := (b2.2 == a1_1)) rfl ?_ ?_
  refine den_ask (ps := [.int a0_0, .int a0_1, .int b2.1, .int b2.2]) (rr := span_Within.rr) (G := span_Within.f a0_0 a0_1 b2.1 b2.2) (by rw [h18]; exact span_Within.ap a0_0 a0_1 b2.1 b2.2) rfl rfl fun b12 => ?_
  show Sy.den F K _ _ [.int a0_0, .int a0_1, .int a1_0, .int a1_1, .int a2, .bool b0, .int b1.1, .int b1.2, .int b2.1, .int b2.2, .bool b3, .bool b4, .bool b5, .bool b6, .bool b7, .bool b8, .bool b9, .bool b10, .bool b11, .bool b12] = _
  refine den_ite (b := b12) rfl ?_ ?_
  refine den_ask (ps := [.int a1_0, .int a1_1, .int b2.1, .int b2.2]) (rr := span_Within.rr) (G := span_Within.f a1_0 a1_1 b2.1 b2.2) (by rw [h18]; exact span_Within.ap a1_0 a1_1 b2.1 b2.2) rfl rfl fun b13 => ?_
  show Sy.den F K _ _ [.int a0_0, .int a0_1, .int a1_0, .int a1_1, .int a2, .bool b0, .int b1.1, .int b1.2, .int b2.1, .int b2.2, .bool b3, .bool b4, .bool b5, .bool b6, .bool b7, .bool b8, .bool b9, .bool b10, .bool b11, .bool b12, .bool b13] = _
  refine den_ite (b := b13) rfl ?_ ?_
  refine den_ask (ps := [.int a0_0, .int a0_1, .int a1_0, .int a1_1]) (rr := span_Within.rr) (G := span_Within.f a0_0 a0_1 a1_0 a1_1) (by rw [h18]; exact span_Within.ap a0_0 a0_1 a1_0 a1_1) rfl rfl fun b14 => ?_
  show Sy.den F K _ _ [.int a0_0, .int a0_1, .int a1_0, .int a1_1, .int a2, .bool b0, .int b1.1, .int b1.2, .int b2.1, .int b2.2, .bool b3, .bool b4, .bool b5, .bool b6, .bool b7, .bool b8, .bool b9, .bool b10, .bool b11, .bool b12, .bool b13, .bool b14] = _
  refine den_ite (b := (!b14)) rfl ?_ ?_
  exact den_ret rfl
  exact den_ret rfl
  exact den_ret rfl
  exact den_ret rfl
  exact den_ret rfl
  exact den_ret rfl
  exact den_ret rfl
theorem gatherumlaw03_SpanTells.ok (F : FnE) (K : Nat) (h12 : F 12 = gatherumlaw03_alive.app) (h14 : F 14 = gatherumlaw03_empty.app) (h17 : F 17 = gatherumlaw03_has.app) (h18 : F 18 = span_Within.app) (h19 : F 19 = span_Meet.app) (h20 : F 20 = span_Hull.app) (h21 : F 21 = span_Has.app) (h22 : F 22 = span_Empty.app) (h23 : F 23 = span_Apart.app) (ps r : List PD) (h : gatherumlaw03_SpanTells.app ps = some r) : Sy.den F K gatherumlaw03_SpanTells.t [] ps = some r := by
  obtain ⟨a, rfl, h2⟩ := app_ok (ra := gatherumlaw03_SpanTells.ra) (rr := gatherumlaw03_SpanTells.rr) (f := fun x => gatherumlaw03_SpanTells.f x.1 x.2.1 x.2.2.1 x.2.2.2.1 x.2.2.2.2) h
  rw [← h2]
  exact gatherumlaw03_SpanTells.den F K h12 h14 h17 h18 h19 h20 h21 h22 h23 (a.1) (a.2.1) (a.2.2.1) (a.2.2.2.1) (a.2.2.2.2)
theorem gatherumlaw03_SpanTells.calls (K : Nat) (a0_0 : Int) (a0_1 : Int) (a1_0 : Int) (a1_1 : Int) (a2 : Int) (w : World) (S : Nat → Prop) (hS : ∀ b, S b → b < w.heap.size) (vals : List Value) (hv : RepArgs w S gatherumlaw03_SpanTells.sg [.int a0_0, .int a0_1, .int a1_0, .int a1_1, .int a2] vals) (h : gatherumlaw03_SpanTells.f a0_0 a0_1 a1_0 a1_1 a2 = some true) :
    Calls Try.prog 6 vals.toArray w fun e w' => e = .returned (.bool true) ∧ Below w.heap.size w w' := by
  refine (fn_callsD (r := [.bool true]) gatherumlaw03_SpanTells.is rfl (by decide +kernel) envOk relOk relNp mix (gd23 K) (Den_of_den _ [] [] _ (fun d j hj => by simp at hj) (by rw [gatherumlaw03_SpanTells.den _ K rfl rfl rfl rfl rfl rfl rfl rfl rfl, h]; rfl)) hS hv).mono fun e w' he => ?_
  cases e with
  | returned u => exact ⟨by rw [bool_ans he.1], he.2⟩
  | panicked c => exact he.elim
  | outgrown => exact he.elim
end Go.Proofs.Ytpicoedbkeljoaa.XSpanTells
