/- What the functions of the law SpanCuts compute: written by sygen.py from the executor's answers. -/
import Derived.Test.YtpicoedbkeljoaaHi
import Derived.Test.YtpicoedbkeljoaaSyB
import Derived.Test.YtpicoedbkeljoaaProg
import Derived.KernelRfl
set_option linter.unusedVariables false
set_option linter.unusedSimpArgs false
set_option maxRecDepth 100000
set_option maxHeartbeats 4000000
namespace Go.Proofs.Ytpicoedbkeljoaa.XSpanCuts
open Go Go.RowKit Go.Proofs Go.Proofs.Ytpicoedbkeljoaa.Sy
noncomputable def cap8796093022208 : Int := 8796093022208
noncomputable def ty3 : TD := ⟨(TypeDesc.int IntKind.i64), (.int .i64 0), 1, 8⟩
noncomputable def ty4 : TD := ⟨TypeDesc.bool, (.bool false), 1, 1⟩
noncomputable def ty23 : TD := ⟨(TypeDesc.struct #[{ name := "Lo", type := 3, offset := 0, embedded := false, tag := "", pkgPath := "", byteOffset := 0 }, { name := "Hi", type := 3, offset := 1, embedded := false, tag := "", pkgPath := "", byteOffset := 8 }]), (.agg #[.int .i64 0, .int .i64 0]), 2, 16⟩
noncomputable def ty24 : TD := ⟨(TypeDesc.slice 3), (.slice none 0 0), 1, 24⟩
noncomputable def ty26 : TD := ⟨(TypeDesc.slice 23), (.slice none 0 0), 1, 24⟩
noncomputable def ty75 : TD := ⟨(TypeDesc.array 2 23), (.agg #[.int .i64 0, .int .i64 0, .int .i64 0, .int .i64 0]), 4, 32⟩
noncomputable def tys : List (Nat × TD) := [(3, ty3), (4, ty4), (23, ty23), (24, ty24), (26, ty26), (75, ty75)]
noncomputable def flats : List Nat := [23, 75]
noncomputable def kds : List (Nat × List K4) := [(3, [.i]), (4, [.b]), (23, [.i, .i]), (24, [(.l 3 1)]), (26, [(.l 23 2)]), (75, [.i, .i, .i, .i])]
noncomputable def fns : List (Nat × List S1 × Sh) := [(22, [(.agg [.i, .i])], (.one (.one .b))), (13, [(.agg [.i, .i]), (.one (.l 3 1))], (.one (.one (.l 23 2)))), (43, [(.one .i), (.one .i)], (.one (.agg [.i, .i]))), (16, [(.agg [.i, .i]), (.agg [.i, .i])], (.one (.one (.l 23 2)))), (21, [(.agg [.i, .i]), (.one .i)], (.one (.one .b))), (12, [], (.one (.one .b))), (14, [(.agg [.i, .i])], (.one (.one .b))), (15, [(.one (.l 23 2)), (.agg [.i, .i])], (.one (.one .b))), (3, [(.agg [.i, .i]), (.one (.l 3 1)), (.one .i)], (.one (.one .b)))]
noncomputable def env : Env := ⟨tys, eqsOf tys flats flats, kds, fns⟩
noncomputable def tab : List (Nat × OwE) := [(41, ⟨false, PCLI, 3, 1, []⟩), (42, ⟨true, PSTI, 3, 1, []⟩)]
noncomputable def exts (n : Nat) : Ext := orExt lenExt (orExt (subExt env n) (owExt n tab))
noncomputable def rel : List (Nat × RelE) := []
theorem tysOk : TysOk Try.prog tys := (tys_cons (tys_cons (tys_cons (tys_cons (tys_cons (tys_cons tys_nil (t := 75) (td := ty75) Try.underlying75 (by kernel_rfl)) (t := 26) (td := ty26) Try.underlying26 (by kernel_rfl)) (t := 24) (td := ty24) Try.underlying24 (by kernel_rfl)) (t := 23) (td := ty23) Try.underlying23 (by kernel_rfl)) (t := 4) (td := ty4) Try.underlying4 (by kernel_rfl)) (t := 3) (td := ty3) Try.underlying3 (by kernel_rfl))
theorem flatOk : FlatOk Try.prog flats := (flat_cons (flat_cons flat_nil (t := 75) (by kernel_rfl) (by kernel_rfl)) (t := 23) (by kernel_rfl) (by kernel_rfl))
theorem envOk : EnvOk Try.prog env := env_ok tysOk flatOk kds fns
theorem mix : Try.prog.follows .mixedOrders = true := by kernel_rfl
theorem relOk : GoodR Try.prog rel := goodR_nil
theorem relNp : RelNoPt rel := relNoPt_nil
noncomputable def l0 (K : Nat) : List (Nat × App) := [(1000001, subApp), (1000002, cliApp), (1000003, stiApp)]
theorem gd0 (K : Nat) : Sy.Good Try.prog fns (mkF (l0 K)) := (good_ps (by kernel_rfl) (good_ps (by kernel_rfl) (good_ps (by kernel_rfl) good_nil stiApp) cliApp) subApp)
theorem exts_ok {F : FnE} {n : Nat} (h1 : F 1000001 = subApp) (h2 : F 1000002 = cliApp) (h3 : F 1000003 = stiApp) : ExtOk Try.prog F n (exts n) := orExt_ok lenExt_ok (orExt_ok (subExt_ok envOk h1) (owExt_ok (owOk_cons (by simpa using Go.Proofs.Ytpicoedbkeljoaa.Hi.clone_ok h2) (owOk_cons (by simpa using Go.Proofs.Ytpicoedbkeljoaa.Hi.sort_ok h3) owOk_nil))))
noncomputable def kSl : Ov := ⟨.slice none 0 0, rfl⟩
theorem kSl_eq : Value.slice none 0 0 = kSl.1 := rfl
noncomputable def kPt : Ov := ⟨.pointer none, rfl⟩
theorem kPt_eq : Value.pointer none = kPt.1 := rfl
noncomputable def rw_i : Rw (Int) := rwI
theorem rw_i_en (r : Int) : rw_i.en r = [.int r] := rfl
theorem rw_i_one (r0 : Int) : ([[.int r0]] : List (List PD)) = [(r0)].map rw_i.en := rfl
theorem rw_i_cons (r0 : Int) (l : List (Int)) : ([.int r0] :: l.map rw_i.en : List (List PD)) = ((r0) :: l).map rw_i.en := rfl
theorem rw_i_nil : (PD.lst 1 [] : PD) = PD.lst 1 (([] : List (Int)).map rw_i.en) := rfl
noncomputable def rw_ii : Rw (Int × Int) := (rwP rwI rwI)
theorem rw_ii_en (r : Int × Int) : rw_ii.en r = [.int r.1, .int r.2] := rfl
theorem rw_ii_one (r0 : Int) (r1 : Int) : ([[.int r0, .int r1]] : List (List PD)) = [(r0, r1)].map rw_ii.en := rfl
theorem rw_ii_cons (r0 : Int) (r1 : Int) (l : List (Int × Int)) : ([.int r0, .int r1] :: l.map rw_ii.en : List (List PD)) = ((r0, r1) :: l).map rw_ii.en := rfl
theorem rw_ii_nil : (PD.lst 2 [] : PD) = PD.lst 2 (([] : List (Int × Int)).map rw_ii.en) := rfl
theorem den_ite {F : FnE} {K : Nat} {c : B} {x y : Tree} {Js : List (List PD → Option (List PD))} {ρ : List PD} {b : Bool} {α : Type} {X Y : Option α} {g : α → List PD} (hc : c.ev ρ = some b) (hx : Sy.den F K x Js ρ = X.map g) (hy : Sy.den F K y Js ρ = Y.map g) : Sy.den F K (.ite c x y) Js ρ = (if b = true then X else Y).map g := by
  rw [Sy.den, hc, Option.bind_some]; cases b
  · exact hy
  · exact hx
theorem den_ask {F : FnE} {K f : Nat} {args : List PC} {ks : List K4} {k : Tree} {Js : List (List PD → Option (List PD))} {ρ ps : List PD} {α β : Type} {G : Option β} {X : β → Option α} {g : α → List PD} {rr : Rw β} (ha : F f ps = G.map rr.en) (hp : pds ρ args = some ps) (hk : rr.ks = ks) (h : ∀ b, Sy.den F K k Js (ρ ++ rr.en b) = (X b).map g) : Sy.den F K (.ask f args ks k) Js ρ = (G.bind X).map g := by
  rw [Sy.den, hp, Option.bind_some, ha]
  cases G with
  | none => rfl
  | some b => subst hk; simp only [Option.map_some, Option.bind_some, rr.hok, if_true]; exact h b
theorem den_get {F : FnE} {K l sz : Nat} {i : E} {ks : List K4} {k : Tree} {Js : List (List PD → Option (List PD))} {ρ : List PD} {α β : Type} {L : List β} {X : β → Option α} {g : α → List PD} {rw : Rw β} {iv : Int} (hl : ρ[l]? = some (.lst sz (L.map rw.en))) (hi : i.ev ρ = some iv) (hk : rw.ks = ks) (h : ∀ b, Sy.den F K k Js (ρ ++ rw.en b) = (X b).map g) : Sy.den F K (.get l i ks k) Js ρ = ((L[iv.toNat]?).bind X).map g := by
  rw [Sy.den, hl]
  simp only [hi, Option.bind_some, List.getElem?_map]
  cases L[iv.toNat]? with
  | none => rfl
  | some b => subst hk; simp only [Option.map_some, Option.bind_some, rw.hok, if_true]; exact h b
theorem den_fix {F : FnE} {K sz : Nat} {L : LE} {k : Tree} {Js : List (List PD → Option (List PD))} {ρ : List PD} {α : Type} {rows : List (List PD)} {X : Option α} {g : α → List PD} (hL : LE.rows ρ L = some rows) (h : Sy.den F K k Js (ρ ++ [.lst sz rows]) = X.map g) : Sy.den F K (.fix L sz k) Js ρ = X.map g := by
  rw [Sy.den, hL]; exact h
theorem den_loop {F : FnE} {K : Nat} {args : List PC} {ks : List K4} {body : Tree} {Js : List (List PD → Option (List PD))} {ρ vs : List PD} {α : Type} {X : Option α} {g : α → List PD} (hp : pds ρ args = some vs) (h : iterF (fun J ρ' => Sy.den F K body (J :: Js) ρ') K (ρ ++ vs) = X.map g) : Sy.den F K (.loop args ks body) Js ρ = X.map g := by
  rw [Sy.den, hp]; exact h
theorem den_back {F : FnE} {K d p0 : Nat} {args : List PC} {Js : List (List PD → Option (List PD))} {ρ vs : List PD} {α : Type} {X : Option α} {g : α → List PD} {J : List PD → Option (List PD)} (hp : pds ρ args = some vs) (hJ : Js[d]? = some J) (h : J (ρ.take p0 ++ vs) = X.map g) : Sy.den F K (.back d p0 args) Js ρ = X.map g := by
  rw [Sy.den, hp, Option.bind_some, hJ]; exact h
theorem dens_ite {F : FnE} {c : B} {x y : Tree} {sup : List Ov} {ρ : List PD} {b : Bool} {α : Type} {X Y : Option α} {g : α → List PD} (hc : c.ev ρ = some b) (hx : Sy.denS F x ρ sup = X.map g) (hy : Sy.denS F y ρ sup = Y.map g) : Sy.denS F (.ite c x y) ρ sup = (if b = true then X else Y).map g := by
  rw [Sy.denS, hc, Option.bind_some]; cases b
  · exact hy
  · exact hx
theorem dens_ask {F : FnE} {f : Nat} {args : List PC} {ks : List K4} {k : Tree} {sup : List Ov} {ρ ps : List PD} {α β : Type} {G : Option β} {X : β → Option α} {g : α → List PD} {rr : Rw β} (ha : F f ps = G.map rr.en) (hp : pds ρ args = some ps) (hk : rr.ks = ks) (h : ∀ b, Sy.denS F k (ρ ++ rr.en b) sup = (X b).map g) : Sy.denS F (.ask f args ks k) ρ sup = (G.bind X).map g := by
  rw [Sy.denS, hp, Option.bind_some, ha]
  cases G with
  | none => rfl
  | some b => subst hk; simp only [Option.map_some, Option.bind_some, rr.hok, if_true]; exact h b
theorem dens_get {F : FnE} {l sz : Nat} {i : E} {ks : List K4} {k : Tree} {sup : List Ov} {ρ : List PD} {α β : Type} {L : List β} {X : β → Option α} {g : α → List PD} {rw : Rw β} {iv : Int} (hl : ρ[l]? = some (.lst sz (L.map rw.en))) (hi : i.ev ρ = some iv) (hk : rw.ks = ks) (h : ∀ b, Sy.denS F k (ρ ++ rw.en b) sup = (X b).map g) : Sy.denS F (.get l i ks k) ρ sup = ((L[iv.toNat]?).bind X).map g := by
  rw [Sy.denS, hl]
  simp only [hi, Option.bind_some, List.getElem?_map]
  cases L[iv.toNat]? with
  | none => rfl
  | some b => subst hk; simp only [Option.map_some, Option.bind_some, rw.hok, if_true]; exact h b
theorem dens_fix {F : FnE} {sz : Nat} {L : LE} {k : Tree} {sup : List Ov} {ρ : List PD} {α : Type} {rows : List (List PD)} {X : Option α} {g : α → List PD} (hL : LE.rows ρ L = some rows) (h : Sy.denS F k (ρ ++ [.lst sz rows]) sup = X.map g) : Sy.denS F (.fix L sz k) ρ sup = X.map g := by
  rw [Sy.denS, hL]; exact h
theorem dens_cst {F : FnE} {n : Nat} {k : Tree} {sup l rest : List Ov} {ρ : List PD} {α : Type} {X : Option α} {g : α → List PD} (hs : sup = l ++ rest) (hl : l.length = n) (h : Sy.denS F k (ρ ++ ovs l) rest = X.map g) : Sy.denS F (.cst n k) ρ sup = X.map g := by
  subst hs hl
  rw [Sy.denS, if_pos (by rw [List.length_append]; omega), List.take_left, List.drop_left]; exact h
theorem dens_ret {F : FnE} {l : List PC} {sup : List Ov} {ρ : List PD} {α : Type} {X : Option α} {g : α → List PD} (hp : pds ρ l = X.map g) : Sy.denS F (.ret l) ρ sup = X.map g := hp
theorem dens_bad (F : FnE) (ρ : List PD) (sup : List Ov) {α : Type} (g : α → List PD) : Sy.denS F .bad ρ sup = (none : Option α).map g := rfl
theorem den_ret {F : FnE} {K : Nat} {l : List PC} {Js : List (List PD → Option (List PD))} {ρ : List PD} {α : Type} {X : Option α} {g : α → List PD} (hp : pds ρ l = X.map g) : Sy.den F K (.ret l) Js ρ = X.map g := hp
theorem den_bad (F : FnE) (K : Nat) (Js : List (List PD → Option (List PD))) (ρ : List PD) {α : Type} (g : α → List PD) : Sy.den F K .bad Js ρ = (none : Option α).map g := rfl
/-! ### span_Empty: function 22 -/
noncomputable def span_Empty.body : Code := Try.f22.body.getD .skip
noncomputable def span_Empty.sg : List S1 := [(.agg [.i, .i])]
noncomputable def span_Empty.sh : Sh := (.one (.one .b))
noncomputable def span_Empty.cf : Cfg := ⟨env, Try.f22.ntmps, Try.f22.results.toList, some span_Empty.sh, rel, [], [], (exts Try.f22.ntmps)⟩
noncomputable def span_Empty.t : Tree := (.ret [(.bo (.le (.va 1) (.va 0)))])
noncomputable def span_Empty.ra : Rw (Int × Int) := (rwP rwI rwI)
noncomputable def span_Empty.rr : Rw (Bool) := rwB
theorem span_Empty.rr_en (r : Bool) : span_Empty.rr.en r = [.bool r] := rfl
noncomputable def span_Empty.f (a0_0 : Int) (a0_1 : Int) : Option (Bool) := some (decide (a0_1 ≤ a0_0))
noncomputable def span_Empty.app : App := fun ps => (span_Empty.ra.de ps).bind fun x => (span_Empty.f x.1 x.2).map span_Empty.rr.en
theorem span_Empty.ap (a0_0 : Int) (a0_1 : Int) : span_Empty.app [.int a0_0, .int a0_1] = (span_Empty.f a0_0 a0_1).map span_Empty.rr.en := app_ap span_Empty.ra span_Empty.rr (fun x => span_Empty.f x.1 x.2) (a0_0, a0_1)
theorem span_Empty.is : FnIs Try.prog 22 (.init span_Empty.sg) span_Empty.t span_Empty.cf := ⟨Try.f22, span_Empty.body, 6000, Try.func22, by kernel_rfl, rfl, rfl, by decide +kernel, by kernel_rfl⟩
theorem span_Empty.den (F : FnE) (K : Nat) (a0_0 : Int) (a0_1 : Int) : Sy.den F K span_Empty.t [] [.int a0_0, .int a0_1] = (span_Empty.f a0_0 a0_1).map span_Empty.rr.en := by
  unfold span_Empty.t span_Empty.f
  exact den_ret rfl
theorem span_Empty.ok (F : FnE) (K : Nat) (ps r : List PD) (h : span_Empty.app ps = some r) : Sy.den F K span_Empty.t [] ps = some r := by
  obtain ⟨a, rfl, h2⟩ := app_ok (ra := span_Empty.ra) (rr := span_Empty.rr) (f := fun x => span_Empty.f x.1 x.2) h
  rw [← h2]
  exact span_Empty.den F K (a.1) (a.2)
noncomputable def l22 (K : Nat) : List (Nat × App) := (22, span_Empty.app) :: l0 K
theorem gd22 (K : Nat) : Sy.Good Try.prog fns (mkF (l22 K)) := good_cons (K := K) span_Empty.is rfl (by kernel_rfl) (by decide +kernel) envOk relOk relNp mix (gd0 K) (exts_ok rfl rfl rfl) (span_Empty.ok _ K)
/-! ### span_Cut: function 13 -/
noncomputable def span_Cut.body : Code := Try.f13.body.getD .skip
noncomputable def span_Cut.sg : List S1 := [(.agg [.i, .i]), (.one (.l 3 1))]
noncomputable def span_Cut.sh : Sh := (.one (.one (.l 23 2)))
noncomputable def span_Cut.cf : Cfg := ⟨env, Try.f13.ntmps, Try.f13.results.toList, some span_Cut.sh, rel, [7], [((7, 772, 7), ⟨[], [], [(17, [(0, .i), (0, .i), (0, .i)]), (6, [(0, (.own 23 2))])], [(4, [(0, .i)])]⟩)], (exts Try.f13.ntmps)⟩
noncomputable def span_Cut.b0 : Tree := (.ite (.lt (.va 7) (.lens [6] 0)) (.ite (.le (.nu 0) (.va 7)) (.get 6 (.va 7) [.i] (.ite (.lt (.va 9) (.va 10)) (.ite (.lt (.va 10) (.va 1)) (.ite (.le (.lens [8] 1) (.nu cap8796093022208)) (.fix [(.va 8), (.row [(.ex (.va 9)), (.ex (.va 10))])] 2 (.back 0 7 [(.ex (.add (.va 7) (.nu 1))), (.li 11), (.ex (.va 10))])) .bad) (.back 0 7 [(.ex (.add (.va 7) (.nu 1))), (.li 8), (.ex (.va 9))])) (.back 0 7 [(.ex (.add (.va 7) (.nu 1))), (.li 8), (.ex (.va 9))]))) .bad) (.ite (.le (.lens [8] 1) (.nu cap8796093022208)) (.fix [(.va 8), (.row [(.ex (.va 9)), (.ex (.va 1))])] 2 (.ret [(.li 10)])) .bad))
noncomputable def span_Cut.t : Tree := (.ask 22 [(.ex (.va 0)), (.ex (.va 1))] [.b] (.ite (.va 3) (.ret [(.nl 2)]) (.ask 1000002 [(.li 2)] [(.l 3 1)] (.ask 1000003 [(.li 4)] [(.l 3 1)] (.fix [(.va 5)] 1 (.loop [(.ex (.nu 0)), (.nl 2), (.ex (.va 0))] [.i, (.l 23 2), .i] span_Cut.b0))))))
noncomputable def span_Cut.ra : Rw (Int × Int × (List (Int))) := (rwP rwI (rwP rwI (rwL 3 1 rw_i rfl)))
noncomputable def span_Cut.rr : Rw (List (Int × Int)) := (rwL 23 2 rw_ii rfl)
theorem span_Cut.rr_en (r : List (Int × Int)) : span_Cut.rr.en r = [.lst 2 (r.map rw_ii.en)] := rfl
noncomputable def span_Cut.l0 (p1 : Int) (p6 : List (Int)) : Nat → (Int) → (List (Int × Int)) → (Int) → Option (List (Int × Int))
  | 0, _, _, _ => none
  | k + 1, x0, x1, x2 => (if (decide (x0 < ((p6.length : Nat) : Int))) = true then (if (decide (0 ≤ x0)) = true then ((p6[(x0 : Int).toNat]?).bind fun b0 => (if (decide (x2 < b0)) = true then (if (decide (b0 < p1)) = true then (if (decide (((x1.length + 1 : Nat) : Int) ≤ cap8796093022208)) = true then (span_Cut.l0 p1 p6 k (wrap64 (x0 + 1)) (x1 ++ [(x2, b0)]) b0) else none) else (span_Cut.l0 p1 p6 k (wrap64 (x0 + 1)) x1 x2)) else (span_Cut.l0 p1 p6 k (wrap64 (x0 + 1)) x1 x2))) else none) else (if (decide (((x1.length + 1 : Nat) : Int) ≤ cap8796093022208)) = true then some (x1 ++ [(x2, p1)]) else none))
noncomputable def span_Cut.f (K : Nat) (a0_0 : Int) (a0_1 : Int) (a1 : List (Int)) : Option (List (Int × Int)) := ((span_Empty.f a0_0 a0_1).bind fun b0 => (if b0 = true then some [] else ((xcli a1).bind fun b1 => ((xsti b1).bind fun b2 => (span_Cut.l0 a0_1 b2 K 0 [] a0_0)))))
noncomputable def span_Cut.app (K : Nat) : App := fun ps => (span_Cut.ra.de ps).bind fun x => (span_Cut.f K x.1 x.2.1 x.2.2).map span_Cut.rr.en
theorem span_Cut.ap (K : Nat) (a0_0 : Int) (a0_1 : Int) (a1 : List (Int)) : span_Cut.app K [.int a0_0, .int a0_1, .lst 1 (a1.map rw_i.en)] = (span_Cut.f K a0_0 a0_1 a1).map span_Cut.rr.en := app_ap span_Cut.ra span_Cut.rr (fun x => span_Cut.f K x.1 x.2.1 x.2.2) (a0_0, a0_1, a1)
theorem span_Cut.is : FnIs Try.prog 13 (.init span_Cut.sg) span_Cut.t span_Cut.cf := ⟨Try.f13, span_Cut.body, 6000, Try.func13, by kernel_rfl, rfl, rfl, by decide +kernel, by kernel_rfl⟩
theorem span_Cut.l0_den (F : FnE) (K : Nat) (h22 : F 22 = span_Empty.app) (h1000002 : F 1000002 = cliApp) (h1000003 : F 1000003 = stiApp) (Js : List (List PD → Option (List PD))) (p0 : Int) (p1 : Int) (p2 : List (Int)) (p3 : Bool) (p4 : List (Int)) (p5 : List (Int)) (p6 : List (Int)) : ∀ (k : Nat) (x0 : Int) (x1 : List (Int × Int)) (x2 : Int), iterF (fun J ρ' => den F K span_Cut.b0 (J :: Js) ρ') k [.int p0, .int p1, .lst 1 (p2.map rw_i.en), .bool p3, .lst 1 (p4.map rw_i.en), .lst 1 (p5.map rw_i.en), .lst 1 (p6.map rw_i.en), .int x0, .lst 2 (x1.map rw_ii.en), .int x2] = (span_Cut.l0 p1 p6 k x0 x1 x2).map span_Cut.rr.en := by
  intro k
  induction k with
  | zero => intros; rfl
  | succ k ih =>
    intro x0 x1 x2
    show Sy.den F K span_Cut.b0 (iterF (fun J ρ' => Sy.den F K span_Cut.b0 (J :: Js) ρ') k :: Js) [.int p0, .int p1, .lst 1 (p2.map rw_i.en), .bool p3, .lst 1 (p4.map rw_i.en), .lst 1 (p5.map rw_i.en), .lst 1 (p6.map rw_i.en), .int x0, .lst 2 (x1.map rw_ii.en), .int x2] = _
    revert ih
    generalize iterF (fun J ρ' => Sy.den F K span_Cut.b0 (J :: Js) ρ') k = J0
    intro ih
    rw [span_Cut.l0]
    show Sy.den F K span_Cut.b0 _ [.int p0, .int p1, .lst 1 (p2.map rw_i.en), .bool p3, .lst 1 (p4.map rw_i.en), .lst 1 (p5.map rw_i.en), .lst 1 (p6.map rw_i.en), .int x0, .lst 2 (x1.map rw_ii.en), .int x2] = _
    unfold span_Cut.b0
    refine den_ite (b := (decide (x0 < ((p6.length : Nat) : Int)))) (by simp only [pds, PC.pd, E.ev, B.ev, SE.ev, LE.rows, lensEv, kSl_eq, kPt_eq, ov_prop, List.getElem?_cons_zero, List.getElem?_cons_succ, List.length_map, Nat.add_zero, Nat.zero_add, Option.bind_some, Option.map_some, if_true, Subtype.eta, mxi, mni, List.map_append, List.map_cons, List.map_nil, List.cons_append, List.nil_append, List.append_nil]) ?_ ?_
    refine den_ite (b := (decide (0 ≤ x0))) rfl ?_ ?_
    refine den_get (L := p6) (rw := rw_i) rfl rfl rfl fun b0 => ?_
    show Sy.den F K _ _ [.int p0, .int p1, .lst 1 (p2.map rw_i.en), .bool p3, .lst 1 (p4.map rw_i.en), .lst 1 (p5.map rw_i.en), .lst 1 (p6.map rw_i.en), .int x0, .lst 2 (x1.map rw_ii.en), .int x2, .int b0] = _
    refine den_ite (b := (decide (x2 < b0))) rfl ?_ ?_
    refine den_ite (b := (decide (b0 < p1))) rfl ?_ ?_
    refine den_ite (b := (decide (((x1.length + 1 : Nat) : Int) ≤ cap8796093022208))) (by simp only [pds, PC.pd, E.ev, B.ev, SE.ev, LE.rows, lensEv, kSl_eq, kPt_eq, ov_prop, List.getElem?_cons_zero, List.getElem?_cons_succ, List.length_map, Nat.add_zero, Nat.zero_add, Option.bind_some, Option.map_some, if_true, Subtype.eta, mxi, mni, List.map_append, List.map_cons, List.map_nil, List.cons_append, List.nil_append, List.append_nil]) ?_ ?_
    refine den_fix (rows := List.map rw_ii.en (x1 ++ [(x2, b0)])) (by simp only [pds, PC.pd, E.ev, B.ev, SE.ev, LE.rows, lensEv, kSl_eq, kPt_eq, ov_prop, List.getElem?_cons_zero, List.getElem?_cons_succ, List.length_map, Nat.add_zero, Nat.zero_add, Option.bind_some, Option.map_some, if_true, Subtype.eta, mxi, mni, List.map_append, List.map_cons, List.map_nil, List.cons_append, List.nil_append, List.append_nil, rw_ii_en]) ?_
    show Sy.den F K _ _ [.int p0, .int p1, .lst 1 (p2.map rw_i.en), .bool p3, .lst 1 (p4.map rw_i.en), .lst 1 (p5.map rw_i.en), .lst 1 (p6.map rw_i.en), .int x0, .lst 2 (x1.map rw_ii.en), .int x2, .int b0, .lst 2 ((x1 ++ [(x2, b0)]).map rw_ii.en)] = _
    refine den_back (vs := [.int (wrap64 (x0 + 1)), .lst 2 ((x1 ++ [(x2, b0)]).map rw_ii.en), .int b0]) (by simp only [pds, PC.pd, E.ev, B.ev, SE.ev, LE.rows, lensEv, kSl_eq, kPt_eq, ov_prop, List.getElem?_cons_zero, List.getElem?_cons_succ, List.length_map, Nat.add_zero, Nat.zero_add, Option.bind_some, Option.map_some, if_true, Subtype.eta, mxi, mni, List.map_append, List.map_cons, List.map_nil, List.cons_append, List.nil_append, List.append_nil]) rfl ?_
    exact ih (wrap64 (x0 + 1)) (x1 ++ [(x2, b0)]) b0
    exact den_bad _ _ _ _ _
    refine den_back (vs := [.int (wrap64 (x0 + 1)), .lst 2 (x1.map rw_ii.en), .int x2]) (by simp only [pds, PC.pd, E.ev, B.ev, SE.ev, LE.rows, lensEv, kSl_eq, kPt_eq, ov_prop, List.getElem?_cons_zero, List.getElem?_cons_succ, List.length_map, Nat.add_zero, Nat.zero_add, Option.bind_some, Option.map_some, if_true, Subtype.eta, mxi, mni, List.map_append, List.map_cons, List.map_nil, List.cons_append, List.nil_append, List.append_nil]) rfl ?_
    exact ih (wrap64 (x0 + 1)) x1 x2
    refine den_back (vs := [.int (wrap64 (x0 + 1)), .lst 2 (x1.map rw_ii.en), .int x2]) (by simp only [pds, PC.pd, E.ev, B.ev, SE.ev, LE.rows, lensEv, kSl_eq, kPt_eq, ov_prop, List.getElem?_cons_zero, List.getElem?_cons_succ, List.length_map, Nat.add_zero, Nat.zero_add, Option.bind_some, Option.map_some, if_true, Subtype.eta, mxi, mni, List.map_append, List.map_cons, List.map_nil, List.cons_append, List.nil_append, List.append_nil]) rfl ?_
    exact ih (wrap64 (x0 + 1)) x1 x2
    exact den_bad _ _ _ _ _
    refine den_ite (b := (decide (((x1.length + 1 : Nat) : Int) ≤ cap8796093022208))) (by simp only [pds, PC.pd, E.ev, B.ev, SE.ev, LE.rows, lensEv, kSl_eq, kPt_eq, ov_prop, List.getElem?_cons_zero, List.getElem?_cons_succ, List.length_map, Nat.add_zero, Nat.zero_add, Option.bind_some, Option.map_some, if_true, Subtype.eta, mxi, mni, List.map_append, List.map_cons, List.map_nil, List.cons_append, List.nil_append, List.append_nil]) ?_ ?_
    refine den_fix (rows := List.map rw_ii.en (x1 ++ [(x2, p1)])) (by simp only [pds, PC.pd, E.ev, B.ev, SE.ev, LE.rows, lensEv, kSl_eq, kPt_eq, ov_prop, List.getElem?_cons_zero, List.getElem?_cons_succ, List.length_map, Nat.add_zero, Nat.zero_add, Option.bind_some, Option.map_some, if_true, Subtype.eta, mxi, mni, List.map_append, List.map_cons, List.map_nil, List.cons_append, List.nil_append, List.append_nil, rw_ii_en]) ?_
    show Sy.den F K _ _ [.int p0, .int p1, .lst 1 (p2.map rw_i.en), .bool p3, .lst 1 (p4.map rw_i.en), .lst 1 (p5.map rw_i.en), .lst 1 (p6.map rw_i.en), .int x0, .lst 2 (x1.map rw_ii.en), .int x2, .lst 2 ((x1 ++ [(x2, p1)]).map rw_ii.en)] = _
    exact den_ret (by simp only [pds, PC.pd, E.ev, B.ev, SE.ev, LE.rows, lensEv, kSl_eq, kPt_eq, ov_prop, List.getElem?_cons_zero, List.getElem?_cons_succ, List.length_map, Nat.add_zero, Nat.zero_add, Option.bind_some, Option.map_some, if_true, Subtype.eta, mxi, mni, List.map_append, List.map_cons, List.map_nil, List.cons_append, List.nil_append, List.append_nil, span_Cut.rr_en])
    exact den_bad _ _ _ _ _
theorem span_Cut.den (F : FnE) (K : Nat) (h22 : F 22 = span_Empty.app) (h1000002 : F 1000002 = cliApp) (h1000003 : F 1000003 = stiApp) (a0_0 : Int) (a0_1 : Int) (a1 : List (Int)) : Sy.den F K span_Cut.t [] [.int a0_0, .int a0_1, .lst 1 (a1.map rw_i.en)] = (span_Cut.f K a0_0 a0_1 a1).map span_Cut.rr.en := by
  unfold span_Cut.t span_Cut.f
  refine den_ask (ps := [.int a0_0, .int a0_1]) (rr := span_Empty.rr) (G := span_Empty.f a0_0 a0_1) (by rw [h22]; exact span_Empty.ap a0_0 a0_1) rfl rfl fun b0 => ?_
  show Sy.den F K _ _ [.int a0_0, .int a0_1, .lst 1 (a1.map rw_i.en), .bool b0] = _
  refine den_ite (b := b0) rfl ?_ ?_
  exact den_ret (by simp only [pds, PC.pd, E.ev, B.ev, SE.ev, LE.rows, lensEv, kSl_eq, kPt_eq, ov_prop, List.getElem?_cons_zero, List.getElem?_cons_succ, List.length_map, Nat.add_zero, Nat.zero_add, Option.bind_some, Option.map_some, if_true, Subtype.eta, mxi, mni, List.map_append, List.map_cons, List.map_nil, List.cons_append, List.nil_append, List.append_nil, span_Cut.rr_en])
  refine den_ask (ps := [.lst 1 (a1.map rw_i.en)]) (rr := rwL 3 1 rw_i rfl) (G := xcli a1) (by rw [h1000002]; exact xcli_ap 3 1 a1) (by simp only [pds, PC.pd, E.ev, B.ev, SE.ev, LE.rows, lensEv, kSl_eq, kPt_eq, ov_prop, List.getElem?_cons_zero, List.getElem?_cons_succ, List.length_map, Nat.add_zero, Nat.zero_add, Option.bind_some, Option.map_some, if_true, Subtype.eta, mxi, mni, List.map_append, List.map_cons, List.map_nil, List.cons_append, List.nil_append, List.append_nil]) rfl fun b1 => ?_
  show Sy.den F K _ _ [.int a0_0, .int a0_1, .lst 1 (a1.map rw_i.en), .bool b0, .lst 1 (b1.map rw_i.en)] = _
  refine den_ask (ps := [.lst 1 (b1.map rw_i.en)]) (rr := rwL 3 1 rw_i rfl) (G := xsti b1) (by rw [h1000003]; exact xsti_ap 3 1 b1) (by simp only [pds, PC.pd, E.ev, B.ev, SE.ev, LE.rows, lensEv, kSl_eq, kPt_eq, ov_prop, List.getElem?_cons_zero, List.getElem?_cons_succ, List.length_map, Nat.add_zero, Nat.zero_add, Option.bind_some, Option.map_some, if_true, Subtype.eta, mxi, mni, List.map_append, List.map_cons, List.map_nil, List.cons_append, List.nil_append, List.append_nil]) rfl fun b2 => ?_
  show Sy.den F K _ _ [.int a0_0, .int a0_1, .lst 1 (a1.map rw_i.en), .bool b0, .lst 1 (b1.map rw_i.en), .lst 1 (b2.map rw_i.en)] = _
  refine den_fix (rows := List.map rw_i.en b2) (by simp only [pds, PC.pd, E.ev, B.ev, SE.ev, LE.rows, lensEv, kSl_eq, kPt_eq, ov_prop, List.getElem?_cons_zero, List.getElem?_cons_succ, List.length_map, Nat.add_zero, Nat.zero_add, Option.bind_some, Option.map_some, if_true, Subtype.eta, mxi, mni, List.map_append, List.map_cons, List.map_nil, List.cons_append, List.nil_append, List.append_nil, rw_i_en]) ?_
  show Sy.den F K _ _ [.int a0_0, .int a0_1, .lst 1 (a1.map rw_i.en), .bool b0, .lst 1 (b1.map rw_i.en), .lst 1 (b2.map rw_i.en), .lst 1 (b2.map rw_i.en)] = _
  refine den_loop (vs := [.int 0, .lst 2 [], .int a0_0]) (by simp only [pds, PC.pd, E.ev, B.ev, SE.ev, LE.rows, lensEv, kSl_eq, kPt_eq, ov_prop, List.getElem?_cons_zero, List.getElem?_cons_succ, List.length_map, Nat.add_zero, Nat.zero_add, Option.bind_some, Option.map_some, if_true, Subtype.eta, mxi, mni, List.map_append, List.map_cons, List.map_nil, List.cons_append, List.nil_append, List.append_nil]) ?_
  exact span_Cut.l0_den F K h22 h1000002 h1000003 [] a0_0 a0_1 a1 b0 b1 b2 b2 K 0 [] a0_0
theorem span_Cut.ok (F : FnE) (K : Nat) (h22 : F 22 = span_Empty.app) (h1000002 : F 1000002 = cliApp) (h1000003 : F 1000003 = stiApp) (ps r : List PD) (h : span_Cut.app K ps = some r) : Sy.den F K span_Cut.t [] ps = some r := by
  obtain ⟨a, rfl, h2⟩ := app_ok (ra := span_Cut.ra) (rr := span_Cut.rr) (f := fun x => span_Cut.f K x.1 x.2.1 x.2.2) h
  rw [← h2]
  exact span_Cut.den F K h22 h1000002 h1000003 (a.1) (a.2.1) (a.2.2)
noncomputable def l13 (K : Nat) : List (Nat × App) := (13, span_Cut.app K) :: l22 K
theorem gd13 (K : Nat) : Sy.Good Try.prog fns (mkF (l13 K)) := good_cons (K := K) span_Cut.is rfl (by kernel_rfl) (by decide +kernel) envOk relOk relNp mix (gd22 K) (exts_ok rfl rfl rfl) (span_Cut.ok _ K rfl rfl rfl)
/-! ### span_some: function 43 -/
noncomputable def span_some.body : Code := Try.f43.body.getD .skip
noncomputable def span_some.sg : List S1 := [(.one .i), (.one .i)]
noncomputable def span_some.sh : Sh := (.one (.agg [.i, .i]))
noncomputable def span_some.cf : Cfg := ⟨env, Try.f43.ntmps, Try.f43.results.toList, some span_some.sh, rel, [], [], (exts Try.f43.ntmps)⟩
noncomputable def span_some.t : Tree := (.ite (.le (.va 1) (.va 0)) (.ret [(.ex (.nu 0)), (.ex (.nu 0))]) (.ret [(.ex (.va 0)), (.ex (.va 1))]))
noncomputable def span_some.ra : Rw (Int × Int) := (rwP rwI rwI)
noncomputable def span_some.rr : Rw (Int × Int) := (rwP rwI rwI)
theorem span_some.rr_en (r : Int × Int) : span_some.rr.en r = [.int r.1, .int r.2] := rfl
noncomputable def span_some.f (a0 : Int) (a1 : Int) : Option (Int × Int) := (if (decide (a1 ≤ a0)) = true then some (0, 0) else some (a0, a1))
noncomputable def span_some.app : App := fun ps => (span_some.ra.de ps).bind fun x => (span_some.f x.1 x.2).map span_some.rr.en
theorem span_some.ap (a0 : Int) (a1 : Int) : span_some.app [.int a0, .int a1] = (span_some.f a0 a1).map span_some.rr.en := app_ap span_some.ra span_some.rr (fun x => span_some.f x.1 x.2) (a0, a1)
theorem span_some.is : FnIs Try.prog 43 (.init span_some.sg) span_some.t span_some.cf := ⟨Try.f43, span_some.body, 6000, Try.func43, by kernel_rfl, rfl, rfl, by decide +kernel, by kernel_rfl⟩
theorem span_some.den (F : FnE) (K : Nat) (a0 : Int) (a1 : Int) : Sy.den F K span_some.t [] [.int a0, .int a1] = (span_some.f a0 a1).map span_some.rr.en := by
  unfold span_some.t span_some.f
  refine den_ite (b := (decide (a1 ≤ a0))) rfl ?_ ?_
  exact den_ret rfl
  exact den_ret rfl
theorem span_some.ok (F : FnE) (K : Nat) (ps r : List PD) (h : span_some.app ps = some r) : Sy.den F K span_some.t [] ps = some r := by
  obtain ⟨a, rfl, h2⟩ := app_ok (ra := span_some.ra) (rr := span_some.rr) (f := fun x => span_some.f x.1 x.2) h
  rw [← h2]
  exact span_some.den F K (a.1) (a.2)
noncomputable def l43 (K : Nat) : List (Nat × App) := (43, span_some.app) :: l13 K
theorem gd43 (K : Nat) : Sy.Good Try.prog fns (mkF (l43 K)) := good_cons (K := K) span_some.is rfl (by kernel_rfl) (by decide +kernel) envOk relOk relNp mix (gd13 K) (exts_ok rfl rfl rfl) (span_some.ok _ K)
/-! ### span_Minus: function 16 -/
noncomputable def span_Minus.body : Code := Try.f16.body.getD .skip
noncomputable def span_Minus.sg : List S1 := [(.agg [.i, .i]), (.agg [.i, .i])]
noncomputable def span_Minus.sh : Sh := (.one (.one (.l 23 2)))
noncomputable def span_Minus.cf : Cfg := ⟨env, Try.f16.ntmps, Try.f16.results.toList, some span_Minus.sh, rel, [], [], (exts Try.f16.ntmps)⟩
noncomputable def span_Minus.t : Tree := (.ask 22 [(.ex (.va 2)), (.ex (.va 3))] [.b] (.ite (.va 4) (.ask 13 [(.ex (.va 0)), (.ex (.va 1)), (.nl 1)] [(.l 23 2)] (.ret [(.li 5)])) (.ask 43 [(.ex (.va 0)), (.ex (.mn (.va 1) (.va 2)))] [.i, .i] (.ask 43 [(.ex (.mx (.va 0) (.va 3))), (.ex (.va 1))] [.i, .i] (.ite (.not (.and (.eq (.va 5) (.nu 0)) (.eq (.va 6) (.nu 0)))) (.ite (.not (.and (.eq (.va 7) (.nu 0)) (.eq (.va 8) (.nu 0)))) (.fix [(.row [(.ex (.va 5)), (.ex (.va 6))]), (.row [(.ex (.va 7)), (.ex (.va 8))])] 2 (.ret [(.li 9)])) (.fix [(.row [(.ex (.va 5)), (.ex (.va 6))])] 2 (.ret [(.li 9)]))) (.ite (.not (.and (.eq (.va 7) (.nu 0)) (.eq (.va 8) (.nu 0)))) (.fix [(.row [(.ex (.va 7)), (.ex (.va 8))])] 2 (.ret [(.li 9)])) (.ret [(.nl 2)])))))))
noncomputable def span_Minus.ra : Rw (Int × Int × Int × Int) := (rwP rwI (rwP rwI (rwP rwI rwI)))
noncomputable def span_Minus.rr : Rw (List (Int × Int)) := (rwL 23 2 rw_ii rfl)
theorem span_Minus.rr_en (r : List (Int × Int)) : span_Minus.rr.en r = [.lst 2 (r.map rw_ii.en)] := rfl
noncomputable def span_Minus.f (K : Nat) (a0_0 : Int) (a0_1 : Int) (a1_0 : Int) (a1_1 : Int) : Option (List (Int × Int)) := ((span_Empty.f a1_0 a1_1).bind fun b0 => (if b0 = true then ((span_Cut.f K a0_0 a0_1 []).bind fun b1 => some b1) else ((span_some.f a0_0 (mni a0_1 a1_0)).bind fun b1 => ((span_some.f (mxi a0_0 a1_1) a0_1).bind fun b2 => (if (!((b1.1 == 0) && (b1.2 == 0))) = true then (if (!((b2.1 == 0) && (b2.2 == 0))) = true then some ((b1.1, b1.2) :: [(b2.1, b2.2)]) else some [(b1.1, b1.2)]) else (if (!((b2.1 == 0) && (b2.2 == 0))) = true then some [(b2.1, b2.2)] else some []))))))
noncomputable def span_Minus.app (K : Nat) : App := fun ps => (span_Minus.ra.de ps).bind fun x => (span_Minus.f K x.1 x.2.1 x.2.2.1 x.2.2.2).map span_Minus.rr.en
theorem span_Minus.ap (K : Nat) (a0_0 : Int) (a0_1 : Int) (a1_0 : Int) (a1_1 : Int) : span_Minus.app K [.int a0_0, .int a0_1, .int a1_0, .int a1_1] = (span_Minus.f K a0_0 a0_1 a1_0 a1_1).map span_Minus.rr.en := app_ap span_Minus.ra span_Minus.rr (fun x => span_Minus.f K x.1 x.2.1 x.2.2.1 x.2.2.2) (a0_0, a0_1, a1_0, a1_1)
theorem span_Minus.is : FnIs Try.prog 16 (.init span_Minus.sg) span_Minus.t span_Minus.cf := ⟨Try.f16, span_Minus.body, 250, Try.func16, by kernel_rfl, rfl, rfl, by decide +kernel, by kernel_rfl⟩
theorem span_Minus.den (F : FnE) (K : Nat) (h13 : F 13 = span_Cut.app K) (h22 : F 22 = span_Empty.app) (h43 : F 43 = span_some.app) (a0_0 : Int) (a0_1 : Int) (a1_0 : Int) (a1_1 : Int) : Sy.den F K span_Minus.t [] [.int a0_0, .int a0_1, .int a1_0, .int a1_1] = (span_Minus.f K a0_0 a0_1 a1_0 a1_1).map span_Minus.rr.en := by
  unfold span_Minus.t span_Minus.f
  refine den_ask (ps := [.int a1_0, .int a1_1]) (rr := span_Empty.rr) (G := span_Empty.f a1_0 a1_1) (by rw [h22]; exact span_Empty.ap a1_0 a1_1) rfl rfl fun b0 => ?_
  show Sy.den F K _ _ [.int a0_0, .int a0_1, .int a1_0, .int a1_1, .bool b0] = _
  refine den_ite (b := b0) rfl ?_ ?_
  refine den_ask (ps := [.int a0_0, .int a0_1, .lst 1 []]) (rr := span_Cut.rr) (G := span_Cut.f K a0_0 a0_1 []) (by rw [h13]; exact span_Cut.ap K a0_0 a0_1 []) (by simp only [pds, PC.pd, E.ev, B.ev, SE.ev, LE.rows, lensEv, kSl_eq, kPt_eq, ov_prop, List.getElem?_cons_zero, List.getElem?_cons_succ, List.length_map, Nat.add_zero, Nat.zero_add, Option.bind_some, Option.map_some, if_true, Subtype.eta, mxi, mni, List.map_append, List.map_cons, List.map_nil, List.cons_append, List.nil_append, List.append_nil]) rfl fun b1 => ?_
  show Sy.den F K _ _ [.int a0_0, .int a0_1, .int a1_0, .int a1_1, .bool b0, .lst 2 (b1.map rw_ii.en)] = _
  exact den_ret (by simp only [pds, PC.pd, E.ev, B.ev, SE.ev, LE.rows, lensEv, kSl_eq, kPt_eq, ov_prop, List.getElem?_cons_zero, List.getElem?_cons_succ, List.length_map, Nat.add_zero, Nat.zero_add, Option.bind_some, Option.map_some, if_true, Subtype.eta, mxi, mni, List.map_append, List.map_cons, List.map_nil, List.cons_append, List.nil_append, List.append_nil, span_Minus.rr_en])
  refine den_ask (ps := [.int a0_0, .int (mni a0_1 a1_0)]) (rr := span_some.rr) (G := span_some.f a0_0 (mni a0_1 a1_0)) (by rw [h43]; exact span_some.ap a0_0 (mni a0_1 a1_0)) rfl rfl fun b1 => ?_
  show Sy.den F K _ _ [.int a0_0, .int a0_1, .int a1_0, .int a1_1, .bool b0, .int b1.1, .int b1.2] = _
  refine den_ask (ps := [.int (mxi a0_0 a1_1), .int a0_1]) (rr := span_some.rr) (G := span_some.f (mxi a0_0 a1_1) a0_1) (by rw [h43]; exact span_some.ap (mxi a0_0 a1_1) a0_1) rfl rfl fun b2 => ?_
  show Sy.den F K _ _ [.int a0_0, .int a0_1, .int a1_0, .int a1_1, .bool b0, .int b1.1, .int b1.2, .int b2.1, .int b2.2] = _
  refine den_ite (b := (!((b1.1 == 0) && (b1.2 == 0)))) rfl ?_ ?_
  refine den_ite (b := (!((b2.1 == 0) && (b2.2 == 0)))) rfl ?_ ?_
  refine den_fix (rows := List.map rw_ii.en ((b1.1, b1.2) :: [(b2.1, b2.2)])) (by simp only [pds, PC.pd, E.ev, B.ev, SE.ev, LE.rows, lensEv, kSl_eq, kPt_eq, ov_prop, List.getElem?_cons_zero, List.getElem?_cons_succ, List.length_map, Nat.add_zero, Nat.zero_add, Option.bind_some, Option.map_some, if_true, Subtype.eta, mxi, mni, List.map_append, List.map_cons, List.map_nil, List.cons_append, List.nil_append, List.append_nil, rw_ii_en]) ?_
  show Sy.den F K _ _ [.int a0_0, .int a0_1, .int a1_0, .int a1_1, .bool b0, .int b1.1, .int b1.2, .int b2.1, .int b2.2, .lst 2 (((b1.1, b1.2) :: [(b2.1, b2.2)]).map rw_ii.en)] = _
  exact den_ret (by simp only [pds, PC.pd, E.ev, B.ev, SE.ev, LE.rows, lensEv, kSl_eq, kPt_eq, ov_prop, List.getElem?_cons_zero, List.getElem?_cons_succ, List.length_map, Nat.add_zero, Nat.zero_add, Option.bind_some, Option.map_some, if_true, Subtype.eta, mxi, mni, List.map_append, List.map_cons, List.map_nil, List.cons_append, List.nil_append, List.append_nil, span_Minus.rr_en])
  refine den_fix (rows := List.map rw_ii.en [(b1.1, b1.2)]) (by simp only [pds, PC.pd, E.ev, B.ev, SE.ev, LE.rows, lensEv, kSl_eq, kPt_eq, ov_prop, List.getElem?_cons_zero, List.getElem?_cons_succ, List.length_map, Nat.add_zero, Nat.zero_add, Option.bind_some, Option.map_some, if_true, Subtype.eta, mxi, mni, List.map_append, List.map_cons, List.map_nil, List.cons_append, List.nil_append, List.append_nil, rw_ii_en]) ?_
  show Sy.den F K _ _ [.int a0_0, .int a0_1, .int a1_0, .int a1_1, .bool b0, .int b1.1, .int b1.2, .int b2.1, .int b2.2, .lst 2 ([(b1.1, b1.2)].map rw_ii.en)] = _
  exact den_ret (by simp only [pds, PC.pd, E.ev, B.ev, SE.ev, LE.rows, lensEv, kSl_eq, kPt_eq, ov_prop, List.getElem?_cons_zero, List.getElem?_cons_succ, List.length_map, Nat.add_zero, Nat.zero_add, Option.bind_some, Option.map_some, if_true, Subtype.eta, mxi, mni, List.map_append, List.map_cons, List.map_nil, List.cons_append, List.nil_append, List.append_nil, span_Minus.rr_en])
  refine den_ite (b := (!((b2.1 == 0) && (b2.2 == 0)))) rfl ?_ ?_
  refine den_fix (rows := List.map rw_ii.en [(b2.1, b2.2)]) (by simp only [pds, PC.pd, E.ev, B.ev, SE.ev, LE.rows, lensEv, kSl_eq, kPt_eq, ov_prop, List.getElem?_cons_zero, List.getElem?_cons_succ, List.length_map, Nat.add_zero, Nat.zero_add, Option.bind_some, Option.map_some, if_true, Subtype.eta, mxi, mni, List.map_append, List.map_cons, List.map_nil, List.cons_append, List.nil_append, List.append_nil, rw_ii_en]) ?_
  show Sy.den F K _ _ [.int a0_0, .int a0_1, .int a1_0, .int a1_1, .bool b0, .int b1.1, .int b1.2, .int b2.1, .int b2.2, .lst 2 ([(b2.1, b2.2)].map rw_ii.en)] = _
  exact den_ret (by simp only [pds, PC.pd, E.ev, B.ev, SE.ev, LE.rows, lensEv, kSl_eq, kPt_eq, ov_prop, List.getElem?_cons_zero, List.getElem?_cons_succ, List.length_map, Nat.add_zero, Nat.zero_add, Option.bind_some, Option.map_some, if_true, Subtype.eta, mxi, mni, List.map_append, List.map_cons, List.map_nil, List.cons_append, List.nil_append, List.append_nil, span_Minus.rr_en])
  exact den_ret (by simp only [pds, PC.pd, E.ev, B.ev, SE.ev, LE.rows, lensEv, kSl_eq, kPt_eq, ov_prop, List.getElem?_cons_zero, List.getElem?_cons_succ, List.length_map, Nat.add_zero, Nat.zero_add, Option.bind_some, Option.map_some, if_true, Subtype.eta, mxi, mni, List.map_append, List.map_cons, List.map_nil, List.cons_append, List.nil_append, List.append_nil, span_Minus.rr_en])
theorem span_Minus.ok (F : FnE) (K : Nat) (h13 : F 13 = span_Cut.app K) (h22 : F 22 = span_Empty.app) (h43 : F 43 = span_some.app) (ps r : List PD) (h : span_Minus.app K ps = some r) : Sy.den F K span_Minus.t [] ps = some r := by
  obtain ⟨a, rfl, h2⟩ := app_ok (ra := span_Minus.ra) (rr := span_Minus.rr) (f := fun x => span_Minus.f K x.1 x.2.1 x.2.2.1 x.2.2.2) h
  rw [← h2]
  exact span_Minus.den F K h13 h22 h43 (a.1) (a.2.1) (a.2.2.1) (a.2.2.2)
noncomputable def l16 (K : Nat) : List (Nat × App) := (16, span_Minus.app K) :: l43 K
theorem gd16 (K : Nat) : Sy.Good Try.prog fns (mkF (l16 K)) := good_cons (K := K) span_Minus.is rfl (by kernel_rfl) (by decide +kernel) envOk relOk relNp mix (gd43 K) (exts_ok rfl rfl rfl) (span_Minus.ok _ K rfl rfl rfl)
/-! ### span_Has: function 21 -/
noncomputable def span_Has.body : Code := Try.f21.body.getD .skip
noncomputable def span_Has.sg : List S1 := [(.agg [.i, .i]), (.one .i)]
noncomputable def span_Has.sh : Sh := (.one (.one .b))
noncomputable def span_Has.cf : Cfg := ⟨env, Try.f21.ntmps, Try.f21.results.toList, some span_Has.sh, rel, [], [], (exts Try.f21.ntmps)⟩
noncomputable def span_Has.t : Tree := (.ite (.le (.va 0) (.va 2)) (.ret [(.bo (.lt (.va 2) (.va 1)))]) (.ret [(.bo (.co false))]))
noncomputable def span_Has.ra : Rw (Int × Int × Int) := (rwP rwI (rwP rwI rwI))
noncomputable def span_Has.rr : Rw (Bool) := rwB
theorem span_Has.rr_en (r : Bool) : span_Has.rr.en r = [.bool r] := rfl
noncomputable def span_Has.f (a0_0 : Int) (a0_1 : Int) (a1 : Int) : Option (Bool) := (if (decide (a0_0 ≤ a1)) = true then some (decide (a1 < a0_1)) else some false)
noncomputable def span_Has.app : App := fun ps => (span_Has.ra.de ps).bind fun x => (span_Has.f x.1 x.2.1 x.2.2).map span_Has.rr.en
theorem span_Has.ap (a0_0 : Int) (a0_1 : Int) (a1 : Int) : span_Has.app [.int a0_0, .int a0_1, .int a1] = (span_Has.f a0_0 a0_1 a1).map span_Has.rr.en := app_ap span_Has.ra span_Has.rr (fun x => span_Has.f x.1 x.2.1 x.2.2) (a0_0, a0_1, a1)
theorem span_Has.is : FnIs Try.prog 21 (.init span_Has.sg) span_Has.t span_Has.cf := ⟨Try.f21, span_Has.body, 6000, Try.func21, by kernel_rfl, rfl, rfl, by decide +kernel, by kernel_rfl⟩
theorem span_Has.den (F : FnE) (K : Nat) (a0_0 : Int) (a0_1 : Int) (a1 : Int) : Sy.den F K span_Has.t [] [.int a0_0, .int a0_1, .int a1] = (span_Has.f a0_0 a0_1 a1).map span_Has.rr.en := by
  unfold span_Has.t span_Has.f
  refine den_ite (b := (decide (a0_0 ≤ a1))) rfl ?_ ?_
  exact den_ret rfl
  exact den_ret rfl
theorem span_Has.ok (F : FnE) (K : Nat) (ps r : List PD) (h : span_Has.app ps = some r) : Sy.den F K span_Has.t [] ps = some r := by
  obtain ⟨a, rfl, h2⟩ := app_ok (ra := span_Has.ra) (rr := span_Has.rr) (f := fun x => span_Has.f x.1 x.2.1 x.2.2) h
  rw [← h2]
  exact span_Has.den F K (a.1) (a.2.1) (a.2.2)
noncomputable def l21 (K : Nat) : List (Nat × App) := (21, span_Has.app) :: l16 K
theorem gd21 (K : Nat) : Sy.Good Try.prog fns (mkF (l21 K)) := good_cons (K := K) span_Has.is rfl (by kernel_rfl) (by decide +kernel) envOk relOk relNp mix (gd16 K) (exts_ok rfl rfl rfl) (span_Has.ok _ K)
/-! ### gatherumlaw03_alive: function 12 -/
noncomputable def gatherumlaw03_alive.body : Code := Try.f12.body.getD .skip
noncomputable def gatherumlaw03_alive.sg : List S1 := []
noncomputable def gatherumlaw03_alive.sh : Sh := (.one (.one .b))
noncomputable def gatherumlaw03_alive.cf : Cfg := ⟨env, Try.f12.ntmps, Try.f12.results.toList, some gatherumlaw03_alive.sh, rel, [], [], (exts Try.f12.ntmps)⟩
noncomputable def gatherumlaw03_alive.t : Tree := (.ask 16 [(.ex (.nu 0)), (.ex (.nu 5)), (.ex (.nu 2)), (.ex (.nu 3))] [(.l 23 2)] (.ite (.eq (.lens [0] 0) (.nu 2)) (.ite (.lt (.nu 0) (.lens [0] 0)) (.get 0 (.nu 0) [.i, .i] (.ite (.and (.eq (.va 1) (.nu 0)) (.eq (.va 2) (.nu 2))) (.ite (.lt (.nu 1) (.lens [0] 0)) (.get 0 (.nu 1) [.i, .i] (.ite (.and (.eq (.va 3) (.nu 3)) (.eq (.va 4) (.nu 5))) (.ask 21 [(.ex (.va 3)), (.ex (.va 4)), (.ex (.nu 4))] [.b] (.ret [(.bo (.va 5))])) (.ret [(.bo (.co false))]))) .bad) (.ret [(.bo (.co false))]))) .bad) (.ret [(.bo (.co false))])))
noncomputable def gatherumlaw03_alive.ra : Rw (Unit) := rwU
noncomputable def gatherumlaw03_alive.rr : Rw (Bool) := rwB
theorem gatherumlaw03_alive.rr_en (r : Bool) : gatherumlaw03_alive.rr.en r = [.bool r] := rfl
noncomputable def gatherumlaw03_alive.f (K : Nat) : Option (Bool) := ((span_Minus.f K 0 5 2 3).bind fun b0 => (if (((b0.length : Nat) : Int) == 2) = true then (if (decide (0 < ((b0.length : Nat) : Int))) = true then ((b0[(0 : Int).toNat]?).bind fun b1 => (if ((b1.1 == 0) && (b1.2 == 2)) = true then (if (decide (1 < ((b0.length : Nat) : Int))) = true then ((b0[(1 : Int).toNat]?).bind fun b2 => (if ((b2.1 == 3) && (b2.2 == 5)) = true then ((span_Has.f b2.1 b2.2 4).bind fun b3 => some b3) else some false)) else none) else some false)) else none) else some false))
noncomputable def gatherumlaw03_alive.app (K : Nat) : App := fun ps => (gatherumlaw03_alive.ra.de ps).bind fun x => (gatherumlaw03_alive.f K).map gatherumlaw03_alive.rr.en
theorem gatherumlaw03_alive.ap (K : Nat) : gatherumlaw03_alive.app K [] = (gatherumlaw03_alive.f K).map gatherumlaw03_alive.rr.en := app_ap gatherumlaw03_alive.ra gatherumlaw03_alive.rr (fun x => gatherumlaw03_alive.f K) ()
theorem gatherumlaw03_alive.is : FnIs Try.prog 12 (.init gatherumlaw03_alive.sg) gatherumlaw03_alive.t gatherumlaw03_alive.cf := ⟨Try.f12, gatherumlaw03_alive.body, 6000, Try.func12, by kernel_rfl, rfl, rfl, by decide +kernel, by kernel_rfl⟩
theorem gatherumlaw03_alive.den (F : FnE) (K : Nat) (h16 : F 16 = span_Minus.app K) (h21 : F 21 = span_Has.app) : Sy.den F K gatherumlaw03_alive.t [] [] = (gatherumlaw03_alive.f K).map gatherumlaw03_alive.rr.en := by
  unfold gatherumlaw03_alive.t gatherumlaw03_alive.f
  refine den_ask (ps := [.int 0, .int 5, .int 2, .int 3]) (rr := span_Minus.rr) (G := span_Minus.f K 0 5 2 3) (by rw [h16]; exact span_Minus.ap K 0 5 2 3) rfl rfl fun b0 => ?_
  show Sy.den F K _ _ [.lst 2 (b0.map rw_ii.en)] = _
  refine den_ite (b := (((b0.length : Nat) : Int) == 2)) (by simp only [pds, PC.pd, E.ev, B.ev, SE.ev, LE.rows, lensEv, kSl_eq, kPt_eq, ov_prop, List.getElem?_cons_zero, List.getElem?_cons_succ, List.length_map, Nat.add_zero, Nat.zero_add, Option.bind_some, Option.map_some, if_true, Subtype.eta, mxi, mni, List.map_append, List.map_cons, List.map_nil, List.cons_append, List.nil_append, List.append_nil]) ?_ ?_
  refine den_ite (b := (decide (0 < ((b0.length : Nat) : Int)))) (by simp only [pds, PC.pd, E.ev, B.ev, SE.ev, LE.rows, lensEv, kSl_eq, kPt_eq, ov_prop, List.getElem?_cons_zero, List.getElem?_cons_succ, List.length_map, Nat.add_zero, Nat.zero_add, Option.bind_some, Option.map_some, if_true, Subtype.eta, mxi, mni, List.map_append, List.map_cons, List.map_nil, List.cons_append, List.nil_append, List.append_nil]) ?_ ?_
  refine den_get (L := b0) (rw := rw_ii) rfl rfl rfl fun b1 => ?_
  show Sy.den F K _ _ [.lst 2 (b0.map rw_ii.en), .int b1.1, .int b1.2] = _
  refine den_ite (b := ((b1.1 == 0) && (b1.2 == 2))) rfl ?_ ?_
  refine den_ite (b := (decide (1 < ((b0.length : Nat) : Int)))) (by simp only [pds, PC.pd, E.ev, B.ev, SE.ev, LE.rows, lensEv, kSl_eq, kPt_eq, ov_prop, List.getElem?_cons_zero, List.getElem?_cons_succ, List.length_map, Nat.add_zero, Nat.zero_add, Option.bind_some, Option.map_some, if_true, Subtype.eta, mxi, mni, List.map_append, List.map_cons, List.map_nil, List.cons_append, List.nil_append, List.append_nil]) ?_ ?_
  refine den_get (L := b0) (rw := rw_ii) rfl rfl rfl fun b2 => ?_
  show Sy.den F K _ _ [.lst 2 (b0.map rw_ii.en), .int b1.1, .int b1.2, .int b2.1, .int b2.2] = _
  refine den_ite (b := ((b2.1 == 3) && (b2.2 == 5))) rfl ?_ ?_
  refine den_ask (ps := [.int b2.1, .int b2.2, .int 4]) (rr := span_Has.rr) (G := span_Has.f b2.1 b2.2 4) (by rw [h21]; exact span_Has.ap b2.1 b2.2 4) rfl rfl fun b3 => ?_
  show Sy.den F K _ _ [.lst 2 (b0.map rw_ii.en), .int b1.1, .int b1.2, .int b2.1, .int b2.2, .bool b3] = _
  exact den_ret rfl
  exact den_ret rfl
  exact den_bad _ _ _ _ _
  exact den_ret rfl
  exact den_bad _ _ _ _ _
  exact den_ret rfl
theorem gatherumlaw03_alive.ok (F : FnE) (K : Nat) (h16 : F 16 = span_Minus.app K) (h21 : F 21 = span_Has.app) (ps r : List PD) (h : gatherumlaw03_alive.app K ps = some r) : Sy.den F K gatherumlaw03_alive.t [] ps = some r := by
  obtain ⟨a, rfl, h2⟩ := app_ok (ra := gatherumlaw03_alive.ra) (rr := gatherumlaw03_alive.rr) (f := fun x => gatherumlaw03_alive.f K) h
  rw [← h2]
  exact gatherumlaw03_alive.den F K h16 h21
noncomputable def l12 (K : Nat) : List (Nat × App) := (12, gatherumlaw03_alive.app K) :: l21 K
theorem gd12 (K : Nat) : Sy.Good Try.prog fns (mkF (l12 K)) := good_cons (K := K) gatherumlaw03_alive.is rfl (by kernel_rfl) (by decide +kernel) envOk relOk relNp mix (gd21 K) (exts_ok rfl rfl rfl) (gatherumlaw03_alive.ok _ K rfl rfl)
/-! ### gatherumlaw03_empty: function 14 -/
noncomputable def gatherumlaw03_empty.body : Code := Try.f14.body.getD .skip
noncomputable def gatherumlaw03_empty.sg : List S1 := [(.agg [.i, .i])]
noncomputable def gatherumlaw03_empty.sh : Sh := (.one (.one .b))
noncomputable def gatherumlaw03_empty.cf : Cfg := ⟨env, Try.f14.ntmps, Try.f14.results.toList, some gatherumlaw03_empty.sh, rel, [], [], (exts Try.f14.ntmps)⟩
noncomputable def gatherumlaw03_empty.t : Tree := (.ret [(.bo (.le (.va 1) (.va 0)))])
noncomputable def gatherumlaw03_empty.ra : Rw (Int × Int) := (rwP rwI rwI)
noncomputable def gatherumlaw03_empty.rr : Rw (Bool) := rwB
theorem gatherumlaw03_empty.rr_en (r : Bool) : gatherumlaw03_empty.rr.en r = [.bool r] := rfl
noncomputable def gatherumlaw03_empty.f (a0_0 : Int) (a0_1 : Int) : Option (Bool) := some (decide (a0_1 ≤ a0_0))
noncomputable def gatherumlaw03_empty.app : App := fun ps => (gatherumlaw03_empty.ra.de ps).bind fun x => (gatherumlaw03_empty.f x.1 x.2).map gatherumlaw03_empty.rr.en
theorem gatherumlaw03_empty.ap (a0_0 : Int) (a0_1 : Int) : gatherumlaw03_empty.app [.int a0_0, .int a0_1] = (gatherumlaw03_empty.f a0_0 a0_1).map gatherumlaw03_empty.rr.en := app_ap gatherumlaw03_empty.ra gatherumlaw03_empty.rr (fun x => gatherumlaw03_empty.f x.1 x.2) (a0_0, a0_1)
theorem gatherumlaw03_empty.is : FnIs Try.prog 14 (.init gatherumlaw03_empty.sg) gatherumlaw03_empty.t gatherumlaw03_empty.cf := ⟨Try.f14, gatherumlaw03_empty.body, 6000, Try.func14, by kernel_rfl, rfl, rfl, by decide +kernel, by kernel_rfl⟩
theorem gatherumlaw03_empty.den (F : FnE) (K : Nat) (a0_0 : Int) (a0_1 : Int) : Sy.den F K gatherumlaw03_empty.t [] [.int a0_0, .int a0_1] = (gatherumlaw03_empty.f a0_0 a0_1).map gatherumlaw03_empty.rr.en := by
  unfold gatherumlaw03_empty.t gatherumlaw03_empty.f
  exact den_ret rfl
theorem gatherumlaw03_empty.ok (F : FnE) (K : Nat) (ps r : List PD) (h : gatherumlaw03_empty.app ps = some r) : Sy.den F K gatherumlaw03_empty.t [] ps = some r := by
  obtain ⟨a, rfl, h2⟩ := app_ok (ra := gatherumlaw03_empty.ra) (rr := gatherumlaw03_empty.rr) (f := fun x => gatherumlaw03_empty.f x.1 x.2) h
  rw [← h2]
  exact gatherumlaw03_empty.den F K (a.1) (a.2)
noncomputable def l14 (K : Nat) : List (Nat × App) := (14, gatherumlaw03_empty.app) :: l12 K
theorem gd14 (K : Nat) : Sy.Good Try.prog fns (mkF (l14 K)) := good_cons (K := K) gatherumlaw03_empty.is rfl (by kernel_rfl) (by decide +kernel) envOk relOk relNp mix (gd12 K) (exts_ok rfl rfl rfl) (gatherumlaw03_empty.ok _ K)
/-! ### gatherumlaw03_rising: function 15 -/
noncomputable def gatherumlaw03_rising.body : Code := Try.f15.body.getD .skip
noncomputable def gatherumlaw03_rising.sg : List S1 := [(.one (.l 23 2)), (.agg [.i, .i])]
noncomputable def gatherumlaw03_rising.sh : Sh := (.one (.one .b))
noncomputable def gatherumlaw03_rising.cf : Cfg := ⟨env, Try.f15.ntmps, Try.f15.results.toList, some gatherumlaw03_rising.sh, rel, [2], [((2, 196, 3), ⟨[], [], [(5, [(0, .i)])], []⟩)], (exts Try.f15.ntmps)⟩
noncomputable def gatherumlaw03_rising.b0 : Tree := (.ite (.lt (.va 3) (.lens [0] 0)) (.ite (.le (.nu 0) (.va 3)) (.get 0 (.va 3) [.i, .i] (.ask 14 [(.ex (.va 4)), (.ex (.va 5))] [.b] (.ite (.va 6) (.ret [(.bo (.co false))]) (.ite (.lt (.va 4) (.va 1)) (.ret [(.bo (.co false))]) (.ite (.lt (.va 2) (.va 5)) (.ret [(.bo (.co false))]) (.ite (.lt (.nu 0) (.va 3)) (.ite (.le (.nu 0) (.sub (.va 3) (.nu 1))) (.ite (.lt (.sub (.va 3) (.nu 1)) (.lens [0] 0)) (.get 0 (.sub (.va 3) (.nu 1)) [.i, .i] (.ite (.lt (.va 4) (.va 8)) (.ret [(.bo (.co false))]) (.back 0 3 [(.ex (.add (.va 3) (.nu 1)))]))) .bad) .bad) (.back 0 3 [(.ex (.add (.va 3) (.nu 1)))]))))))) .bad) (.ret [(.bo (.co true))]))
noncomputable def gatherumlaw03_rising.t : Tree := (.loop [(.ex (.nu 0))] [.i] gatherumlaw03_rising.b0)
noncomputable def gatherumlaw03_rising.ra : Rw ((List (Int × Int)) × Int × Int) := (rwP (rwL 23 2 rw_ii rfl) (rwP rwI rwI))
noncomputable def gatherumlaw03_rising.rr : Rw (Bool) := rwB
theorem gatherumlaw03_rising.rr_en (r : Bool) : gatherumlaw03_rising.rr.en r = [.bool r] := rfl
noncomputable def gatherumlaw03_rising.l0 (p0 : List (Int × Int)) (p1 : Int) (p2 : Int) : Nat → (Int) → Option (Bool)
  | 0, _ => none
  | k + 1, x0 => (if (decide (x0 < ((p0.length : Nat) : Int))) = true then (if (decide (0 ≤ x0)) = true then ((p0[(x0 : Int).toNat]?).bind fun b0 => ((gatherumlaw03_empty.f b0.1 b0.2).bind fun b1 => (if b1 = true then some false else (if (decide (b0.1 < p1)) = true then some false else (if (decide (p2 < b0.2)) = true then some false else (if (decide (0 < x0)) = true then (if (decide (0 ≤ (wrap64 (x0 - 1)))) = true then (if (decide ((wrap64 (x0 - 1)) < ((p0.length : Nat) : Int))) = true then ((p0[((wrap64 (x0 - 1)) : Int).toNat]?).bind fun b2 => (if (decide (b0.1 < b2.2)) = true then some false else (gatherumlaw03_rising.l0 p0 p1 p2 k (wrap64 (x0 + 1))))) else none) else none) else (gatherumlaw03_rising.l0 p0 p1 p2 k (wrap64 (x0 + 1))))))))) else none) else some true)
noncomputable def gatherumlaw03_rising.f (K : Nat) (a0 : List (Int × Int)) (a1_0 : Int) (a1_1 : Int) : Option (Bool) := (gatherumlaw03_rising.l0 a0 a1_0 a1_1 K 0)
noncomputable def gatherumlaw03_rising.app (K : Nat) : App := fun ps => (gatherumlaw03_rising.ra.de ps).bind fun x => (gatherumlaw03_rising.f K x.1 x.2.1 x.2.2).map gatherumlaw03_rising.rr.en
theorem gatherumlaw03_rising.ap (K : Nat) (a0 : List (Int × Int)) (a1_0 : Int) (a1_1 : Int) : gatherumlaw03_rising.app K [.lst 2 (a0.map rw_ii.en), .int a1_0, .int a1_1] = (gatherumlaw03_rising.f K a0 a1_0 a1_1).map gatherumlaw03_rising.rr.en := app_ap gatherumlaw03_rising.ra gatherumlaw03_rising.rr (fun x => gatherumlaw03_rising.f K x.1 x.2.1 x.2.2) (a0, a1_0, a1_1)
theorem gatherumlaw03_rising.is : FnIs Try.prog 15 (.init gatherumlaw03_rising.sg) gatherumlaw03_rising.t gatherumlaw03_rising.cf := ⟨Try.f15, gatherumlaw03_rising.body, 6000, Try.func15, by kernel_rfl, rfl, rfl, by decide +kernel, by kernel_rfl⟩
theorem gatherumlaw03_rising.l0_den (F : FnE) (K : Nat) (h14 : F 14 = gatherumlaw03_empty.app) (Js : List (List PD → Option (List PD))) (p0 : List (Int × Int)) (p1 : Int) (p2 : Int) : ∀ (k : Nat) (x0 : Int), iterF (fun J ρ' => den F K gatherumlaw03_rising.b0 (J :: Js) ρ') k [.lst 2 (p0.map rw_ii.en), .int p1, .int p2, .int x0] = (gatherumlaw03_rising.l0 p0 p1 p2 k x0).map gatherumlaw03_rising.rr.en := by
  intro k
  induction k with
  | zero => intros; rfl
  | succ k ih =>
    intro x0
    show Sy.den F K gatherumlaw03_rising.b0 (iterF (fun J ρ' => Sy.den F K gatherumlaw03_rising.b0 (J :: Js) ρ') k :: Js) [.lst 2 (p0.map rw_ii.en), .int p1, .int p2, .int x0] = _
    revert ih
    generalize iterF (fun J ρ' => Sy.den F K gatherumlaw03_rising.b0 (J :: Js) ρ') k = J0
    intro ih
    rw [gatherumlaw03_rising.l0]
    show Sy.den F K gatherumlaw03_rising.b0 _ [.lst 2 (p0.map rw_ii.en), .int p1, .int p2, .int x0] = _
    unfold gatherumlaw03_rising.b0
    refine den_ite (b := (decide (x0 < ((p0.length : Nat) : Int)))) (by simp only [pds, PC.pd, E.ev, B.ev, SE.ev, LE.rows, lensEv, kSl_eq, kPt_eq, ov_prop, List.getElem?_cons_zero, List.getElem?_cons_succ, List.length_map, Nat.add_zero, Nat.zero_add, Option.bind_some, Option.map_some, if_true, Subtype.eta, mxi, mni, List.map_append, List.map_cons, List.map_nil, List.cons_append, List.nil_append, List.append_nil]) ?_ ?_
    refine den_ite (b := (decide (0 ≤ x0))) rfl ?_ ?_
    refine den_get (L := p0) (rw := rw_ii) rfl rfl rfl fun b0 => ?_
    show Sy.den F K _ _ [.lst 2 (p0.map rw_ii.en), .int p1, .int p2, .int x0, .int b0.1, .int b0.2] = _
    refine den_ask (ps := [.int b0.1, .int b0.2]) (rr := gatherumlaw03_empty.rr) (G := gatherumlaw03_empty.f b0.1 b0.2) (by rw [h14]; exact gatherumlaw03_empty.ap b0.1 b0.2) rfl rfl fun b1 => ?_
    show Sy.den F K _ _ [.lst 2 (p0.map rw_ii.en), .int p1, .int p2, .int x0, .int b0.1, .int b0.2, .bool b1] = _
    refine den_ite (b := b1) rfl ?_ ?_
    exact den_ret rfl
    refine den_ite (b := (decide (b0.1 < p1))) rfl ?_ ?_
    exact den_ret rfl
    refine den_ite (b := (decide (p2 < b0.2))) rfl ?_ ?_
    exact den_ret rfl
    refine den_ite (b := (decide (0 < x0))) rfl ?_ ?_
    refine den_ite (b := (decide (0 ≤ (wrap64 (x0 - 1))))) rfl ?_ ?_
    refine den_ite (b := (decide ((wrap64 (x0 - 1)) < ((p0.length : Nat) : Int)))) (by simp only [pds, PC.pd, E.ev, B.ev, SE.ev, LE.rows, lensEv, kSl_eq, kPt_eq, ov_prop, List.getElem?_cons_zero, List.getElem?_cons_succ, List.length_map, Nat.add_zero, Nat.zero_add, Option.bind_some, Option.map_some, if_true, Subtype.eta, mxi, mni, List.map_append, List.map_cons, List.map_nil, List.cons_append, List.nil_append, List.append_nil]) ?_ ?_
    refine den_get (L := p0) (rw := rw_ii) rfl rfl rfl fun b2 => ?_
    show Sy.den F K _ _ [.lst 2 (p0.map rw_ii.en), .int p1, .int p2, .int x0, .int b0.1, .int b0.2, .bool b1, .int b2.1, .int b2.2] = _
    refine den_ite (b := (decide (b0.1 < b2.2))) rfl ?_ ?_
    exact den_ret rfl
    refine den_back (vs := [.int (wrap64 (x0 + 1))]) rfl rfl ?_
    exact ih (wrap64 (x0 + 1))
    exact den_bad _ _ _ _ _
    exact den_bad _ _ _ _ _
    refine den_back (vs := [.int (wrap64 (x0 + 1))]) rfl rfl ?_
    exact ih (wrap64 (x0 + 1))
    exact den_bad _ _ _ _ _
    exact den_ret rfl
theorem gatherumlaw03_rising.den (F : FnE) (K : Nat) (h14 : F 14 = gatherumlaw03_empty.app) (a0 : List (Int × Int)) (a1_0 : Int) (a1_1 : Int) : Sy.den F K gatherumlaw03_rising.t [] [.lst 2 (a0.map rw_ii.en), .int a1_0, .int a1_1] = (gatherumlaw03_rising.f K a0 a1_0 a1_1).map gatherumlaw03_rising.rr.en := by
  unfold gatherumlaw03_rising.t gatherumlaw03_rising.f
  refine den_loop (vs := [.int 0]) rfl ?_
  exact gatherumlaw03_rising.l0_den F K h14 [] a0 a1_0 a1_1 K 0
theorem gatherumlaw03_rising.ok (F : FnE) (K : Nat) (h14 : F 14 = gatherumlaw03_empty.app) (ps r : List PD) (h : gatherumlaw03_rising.app K ps = some r) : Sy.den F K gatherumlaw03_rising.t [] ps = some r := by
  obtain ⟨a, rfl, h2⟩ := app_ok (ra := gatherumlaw03_rising.ra) (rr := gatherumlaw03_rising.rr) (f := fun x => gatherumlaw03_rising.f K x.1 x.2.1 x.2.2) h
  rw [← h2]
  exact gatherumlaw03_rising.den F K h14 (a.1) (a.2.1) (a.2.2)
noncomputable def l15 (K : Nat) : List (Nat × App) := (15, gatherumlaw03_rising.app K) :: l14 K
theorem gd15 (K : Nat) : Sy.Good Try.prog fns (mkF (l15 K)) := good_cons (K := K) gatherumlaw03_rising.is rfl (by kernel_rfl) (by decide +kernel) envOk relOk relNp mix (gd14 K) (exts_ok rfl rfl rfl) (gatherumlaw03_rising.ok _ K rfl)
/-! ### gatherumlaw03_SpanCuts: function 3 -/
noncomputable def gatherumlaw03_SpanCuts.body : Code := Try.f3.body.getD .skip
noncomputable def gatherumlaw03_SpanCuts.sg : List S1 := [(.agg [.i, .i]), (.one (.l 3 1)), (.one .i)]
noncomputable def gatherumlaw03_SpanCuts.sh : Sh := (.one (.one .b))
noncomputable def gatherumlaw03_SpanCuts.cf : Cfg := ⟨env, Try.f3.ntmps, Try.f3.results.toList, some gatherumlaw03_SpanCuts.sh, rel, [11, 15, 21, 24], [((15, 3205, 12), ⟨[], [], [(10, [(0, .i)]), (9, [(0, .b)])], []⟩), ((24, 3461, 12), ⟨[], [], [(12, [(0, .i), (0, .i)])], []⟩), ((11, 2821, 12), ⟨[], [], [(8, [(0, .i)])], []⟩), ((21, 3141, 12), ⟨[], [], [(11, [(0, .i)])], []⟩), ((15, 3206, 13), ⟨[], [], [(10, [(0, .i)]), (9, [(0, .b)])], []⟩), ((24, 3462, 13), ⟨[], [], [(12, [(0, .i), (0, .i)])], []⟩), ((21, 3142, 13), ⟨[], [], [(11, [(0, .i)])], []⟩), ((24, 3463, 14), ⟨[], [], [(12, [(0, .i), (0, .i)])], []⟩)], (exts Try.f3.ntmps)⟩
noncomputable def gatherumlaw03_SpanCuts.b3 : Tree := (.ite (.lt (.va 14) (.lens [5] 0)) (.ite (.le (.nu 0) (.va 13)) (.get 2 (.va 13) [.i] (.ite (.le (.nu 0) (.va 14)) (.get 5 (.va 14) [.i, .i] (.ite (.lt (.va 16) (.va 15)) (.ite (.lt (.va 15) (.va 17)) (.ret [(.bo (.co false))]) (.back 0 14 [(.ex (.add (.va 14) (.nu 1)))])) (.back 0 14 [(.ex (.add (.va 14) (.nu 1)))]))) .bad)) .bad) (.back 1 13 [(.ex (.add (.va 13) (.nu 1)))]))
noncomputable def gatherumlaw03_SpanCuts.b2 : Tree := (.ite (.lt (.va 13) (.lens [2] 0)) (.loop [(.ex (.nu 0))] [.i] gatherumlaw03_SpanCuts.b3) (.ret [(.bo (.co true))]))
noncomputable def gatherumlaw03_SpanCuts.b1 : Tree := (.ite (.lt (.va 13) (.lens [2] 0)) (.ite (.va 14) (.back 0 13 [(.ex (.add (.va 13) (.nu 1))), (.bo (.co true))]) (.ite (.le (.nu 0) (.va 13)) (.get 2 (.va 13) [.i] (.ite (.le (.nu 0) (.va 12)) (.get 5 (.va 12) [.i, .i] (.back 0 13 [(.ex (.add (.va 13) (.nu 1))), (.bo (.eq (.va 15) (.va 16)))])) .bad)) .bad)) (.ite (.le (.nu 0) (.va 12)) (.get 5 (.va 12) [.i, .i] (.ite (.le (.nu 0) (.sub (.va 12) (.nu 1))) (.ite (.lt (.sub (.va 12) (.nu 1)) (.lens [5] 0)) (.get 5 (.sub (.va 12) (.nu 1)) [.i, .i] (.ite (.not (.eq (.va 15) (.va 18))) (.ret [(.bo (.co false))]) (.ite (.not (.va 14)) (.ret [(.bo (.co false))]) (.back 1 12 [(.ex (.add (.va 12) (.nu 1)))])))) .bad) .bad)) .bad))
noncomputable def gatherumlaw03_SpanCuts.b0 : Tree := (.ite (.lt (.va 12) (.lens [5] 0)) (.loop [(.ex (.nu 0)), (.bo (.co false))] [.i, .b] gatherumlaw03_SpanCuts.b1) (.loop [(.ex (.nu 0))] [.i] gatherumlaw03_SpanCuts.b2))
noncomputable def gatherumlaw03_SpanCuts.t : Tree := (.ask 12 [] [.b] (.ite (.not (.va 4)) (.ret [(.bo (.co false))]) (.ite (.lt (.nu 60) (.lens [2] 0)) (.ret [(.bo (.co true))]) (.ask 13 [(.ex (.va 0)), (.ex (.va 1)), (.li 2)] [(.l 23 2)] (.ask 14 [(.ex (.va 0)), (.ex (.va 1))] [.b] (.ite (.va 6) (.ret [(.bo (.eq (.lens [5] 0) (.nu 0)))]) (.ask 15 [(.li 5), (.ex (.va 0)), (.ex (.va 1))] [.b] (.ite (.not (.va 7)) (.ret [(.bo (.co false))]) (.ite (.eq (.lens [5] 0) (.nu 0)) (.ret [(.bo (.co false))]) (.ite (.lt (.nu 0) (.lens [5] 0)) (.get 5 (.nu 0) [.i, .i] (.ite (.not (.eq (.va 8) (.va 0))) (.ret [(.bo (.co false))]) (.ite (.le (.nu 0) (.sub (.lens [5] 0) (.nu 1))) (.ite (.lt (.sub (.lens [5] 0) (.nu 1)) (.lens [5] 0)) (.get 5 (.sub (.lens [5] 0) (.nu 1)) [.i, .i] (.ite (.not (.eq (.va 11) (.va 1))) (.ret [(.bo (.co false))]) (.loop [(.ex (.nu 1))] [.i] gatherumlaw03_SpanCuts.b0))) .bad) .bad))) .bad))))))))))
noncomputable def gatherumlaw03_SpanCuts.ra : Rw (Int × Int × (List (Int)) × Int) := (rwP rwI (rwP rwI (rwP (rwL 3 1 rw_i rfl) rwI)))
noncomputable def gatherumlaw03_SpanCuts.rr : Rw (Bool) := rwB
theorem gatherumlaw03_SpanCuts.rr_en (r : Bool) : gatherumlaw03_SpanCuts.rr.en r = [.bool r] := rfl
noncomputable def gatherumlaw03_SpanCuts.l3 (j2 : (Int) → Option (Bool)) (p2 : List (Int)) (p5 : List (Int × Int)) (p13 : Int) : Nat → (Int) → Option (Bool)
  | 0, _ => none
  | k + 1, x0 => (if (decide (x0 < ((p5.length : Nat) : Int))) = true then (if (decide (0 ≤ p13)) = true then ((p2[(p13 : Int).toNat]?).bind fun b0 => (if (decide (0 ≤ x0)) = true then ((p5[(x0 : Int).toNat]?).bind fun b1 => (if (decide (b1.1 < b0)) = true then (if (decide (b0 < b1.2)) = true then some false else (gatherumlaw03_SpanCuts.l3 j2 p2 p5 p13 k (wrap64 (x0 + 1)))) else (gatherumlaw03_SpanCuts.l3 j2 p2 p5 p13 k (wrap64 (x0 + 1))))) else none)) else none) else (j2 (wrap64 (p13 + 1))))
noncomputable def gatherumlaw03_SpanCuts.l2 (K : Nat) (p2 : List (Int)) (p5 : List (Int × Int)) : Nat → (Int) → Option (Bool)
  | 0, _ => none
  | k + 1, x0 => (if (decide (x0 < ((p2.length : Nat) : Int))) = true then (gatherumlaw03_SpanCuts.l3 (fun y0 => gatherumlaw03_SpanCuts.l2 K p2 p5 k y0) p2 p5 x0 K 0) else some true)
noncomputable def gatherumlaw03_SpanCuts.l1 (j0 : (Int) → Option (Bool)) (p2 : List (Int)) (p5 : List (Int × Int)) (p12 : Int) : Nat → (Int) → (Bool) → Option (Bool)
  | 0, _, _ => none
  | k + 1, x0, x1 => (if (decide (x0 < ((p2.length : Nat) : Int))) = true then (if x1 = true then (gatherumlaw03_SpanCuts.l1 j0 p2 p5 p12 k (wrap64 (x0 + 1)) true) else (if (decide (0 ≤ x0)) = true then ((p2[(x0 : Int).toNat]?).bind fun b0 => (if (decide (0 ≤ p12)) = true then ((p5[(p12 : Int).toNat]?).bind fun b1 => (gatherumlaw03_SpanCuts.l1 j0 p2 p5 p12 k (wrap64 (x0 + 1)) (b0 == b1.1))) else none)) else none)) else (if (decide (0 ≤ p12)) = true then ((p5[(p12 : Int).toNat]?).bind fun b0 => (if (decide (0 ≤ (wrap64 (p12 - 1)))) = true then (if (decide ((wrap64 (p12 - 1)) < ((p5.length : Nat) : Int))) = true then ((p5[((wrap64 (p12 - 1)) : Int).toNat]?).bind fun b1 => (if (!(b0.1 == b1.2)) = true then some false else (if (!x1) = true then some false else (j0 (wrap64 (p12 + 1)))))) else none) else none)) else none))
noncomputable def gatherumlaw03_SpanCuts.l0 (K : Nat) (p2 : List (Int)) (p5 : List (Int × Int)) : Nat → (Int) → Option (Bool)
  | 0, _ => none
  | k + 1, x0 => (if (decide (x0 < ((p5.length : Nat) : Int))) = true then (gatherumlaw03_SpanCuts.l1 (fun y0 => gatherumlaw03_SpanCuts.l0 K p2 p5 k y0) p2 p5 x0 K 0 false) else (gatherumlaw03_SpanCuts.l2 K p2 p5 K 0))
noncomputable def gatherumlaw03_SpanCuts.f (K : Nat) (a0_0 : Int) (a0_1 : Int) (a1 : List (Int)) (a2 : Int) : Option (Bool) := ((gatherumlaw03_alive.f K).bind fun b0 => (if (!b0) = true then some false else (if (decide (60 < ((a1.length : Nat) : Int))) = true then some true else ((span_Cut.f K a0_0 a0_1 a1).bind fun b1 => ((gatherumlaw03_empty.f a0_0 a0_1).bind fun b2 => (if b2 = true then some (((b1.length : Nat) : Int) == 0) else ((gatherumlaw03_rising.f K b1 a0_0 a0_1).bind fun b3 => (if (!b3) = true then some false else (if (((b1.length : Nat) : Int) == 0) = true then some false else (if (decide (0 < ((b1.length : Nat) : Int))) = true then ((b1[(0 : Int).toNat]?).bind fun b4 => (if (!(b4.1 == a0_0)) = true then some false else (if (decide (0 ≤ (wrap64 (((b1.length : Nat) : Int) - 1)))) = true then (if (decide ((wrap64 (((b1.length : Nat) : Int) - 1)) < ((b1.length : Nat) : Int))) = true then ((b1[((wrap64 (((b1.length : Nat) : Int) - 1)) : Int).toNat]?).bind fun b5 => (if (!(b5.2 == a0_1)) = true then some false else (gatherumlaw03_SpanCuts.l0 K a1 b1 K 1))) else none) else none))) else none))))))))))
noncomputable def gatherumlaw03_SpanCuts.app (K : Nat) : App := fun ps => (gatherumlaw03_SpanCuts.ra.de ps).bind fun x => (gatherumlaw03_SpanCuts.f K x.1 x.2.1 x.2.2.1 x.2.2.2).map gatherumlaw03_SpanCuts.rr.en
theorem gatherumlaw03_SpanCuts.ap (K : Nat) (a0_0 : Int) (a0_1 : Int) (a1 : List (Int)) (a2 : Int) : gatherumlaw03_SpanCuts.app K [.int a0_0, .int a0_1, .lst 1 (a1.map rw_i.en), .int a2] = (gatherumlaw03_SpanCuts.f K a0_0 a0_1 a1 a2).map gatherumlaw03_SpanCuts.rr.en := app_ap gatherumlaw03_SpanCuts.ra gatherumlaw03_SpanCuts.rr (fun x => gatherumlaw03_SpanCuts.f K x.1 x.2.1 x.2.2.1 x.2.2.2) (a0_0, a0_1, a1, a2)
theorem gatherumlaw03_SpanCuts.is : FnIs Try.prog 3 (.init gatherumlaw03_SpanCuts.sg) gatherumlaw03_SpanCuts.t gatherumlaw03_SpanCuts.cf := ⟨Try.f3, gatherumlaw03_SpanCuts.body, 6000, Try.func3, by kernel_rfl, rfl, rfl, by decide +kernel, by kernel_rfl⟩
theorem gatherumlaw03_SpanCuts.l3_den (F : FnE) (K : Nat) (h12 : F 12 = gatherumlaw03_alive.app K) (h13 : F 13 = span_Cut.app K) (h14 : F 14 = gatherumlaw03_empty.app) (h15 : F 15 = gatherumlaw03_rising.app K) (Js : List (List PD → Option (List PD))) (J0 : List PD → Option (List PD)) (j0 : (Int) → Option (Bool)) (J2 : List PD → Option (List PD)) (j2 : (Int) → Option (Bool)) (p0 : Int) (p1 : Int) (p2 : List (Int)) (p3 : Int) (p4 : Bool) (p5 : List (Int × Int)) (p6 : Bool) (p7 : Bool) (p8 : Int) (p9 : Int) (p10 : Int) (p11 : Int) (p12 : Int) (p13 : Int) (hJ0 : ∀ (y0 : Int), J0 [.int p0, .int p1, .lst 1 (p2.map rw_i.en), .int p3, .bool p4, .lst 2 (p5.map rw_ii.en), .bool p6, .bool p7, .int p8, .int p9, .int p10, .int p11, .int y0] = (j0 y0).map gatherumlaw03_SpanCuts.rr.en) (hJ2 : ∀ (y0 : Int), J2 [.int p0, .int p1, .lst 1 (p2.map rw_i.en), .int p3, .bool p4, .lst 2 (p5.map rw_ii.en), .bool p6, .bool p7, .int p8, .int p9, .int p10, .int p11, .int p12, .int y0] = (j2 y0).map gatherumlaw03_SpanCuts.rr.en) : ∀ (k : Nat) (x0 : Int), iterF (fun J ρ' => den F K gatherumlaw03_SpanCuts.b3 (J :: J2 :: J0 :: Js) ρ') k [.int p0, .int p1, .lst 1 (p2.map rw_i.en), .int p3, .bool p4, .lst 2 (p5.map rw_ii.en), .bool p6, .bool p7, .int p8, .int p9, .int p10, .int p11, .int p12, .int p13, .int x0] = (gatherumlaw03_SpanCuts.l3 j2 p2 p5 p13 k x0).map gatherumlaw03_SpanCuts.rr.en := by
  intro k
  induction k with
  | zero => intros; rfl
  | succ k ih =>
    intro x0
    show Sy.den F K gatherumlaw03_SpanCuts.b3 (iterF (fun J ρ' => Sy.den F K gatherumlaw03_SpanCuts.b3 (J :: J2 :: J0 :: Js) ρ') k :: J2 :: J0 :: Js) [.int p0, .int p1, .lst 1 (p2.map rw_i.en), .int p3, .bool p4, .lst 2 (p5.map rw_ii.en), .bool p6, .bool p7, .int p8, .int p9, .int p10, .int p11, .int p12, .int p13, .int x0] = _
    revert ih
    generalize iterF (fun J ρ' => Sy.den F K gatherumlaw03_SpanCuts.b3 (J :: J2 :: J0 :: Js) ρ') k = J3
    intro ih
    rw [gatherumlaw03_SpanCuts.l3]
    show Sy.den F K gatherumlaw03_SpanCuts.b3 _ [.int p0, .int p1, .lst 1 (p2.map rw_i.en), .int p3, .bool p4, .lst 2 (p5.map rw_ii.en), .bool p6, .bool p7, .int p8, .int p9, .int p10, .int p11, .int p12, .int p13, .int x0] = _
    unfold gatherumlaw03_SpanCuts.b3
    refine den_ite (b := (decide (x0 < ((p5.length : Nat) : Int)))) (by simp only [pds, PC.pd, E.ev, B.ev, SE.ev, LE.rows, lensEv, kSl_eq, kPt_eq, ov_prop, List.getElem?_cons_zero, List.getElem?_cons_succ, List.length_map, Nat.add_zero, Nat.zero_add, Option.bind_some, Option.map_some, if_true, Subtype.eta, mxi, mni, List.map_append, List.map_cons, List.map_nil, List.cons_append, List.nil_append, List.append_nil]) ?_ ?_
    refine den_ite (b := (decide (0 ≤ p13))) rfl ?_ ?_
    refine den_get (L := p2) (rw := rw_i) rfl rfl rfl fun b0 => ?_
    show Sy.den F K _ _ [.int p0, .int p1, .lst 1 (p2.map rw_i.en), .int p3, .bool p4, .lst 2 (p5.map rw_ii.en), .bool p6, .bool p7, .int p8, .int p9, .int p10, .int p11, .int p12, .int p13, .int x0, .int b0] = _
    refine den_ite (b := (decide (0 ≤ x0))) rfl ?_ ?_
    refine den_get (L := p5) (rw := rw_ii) rfl rfl rfl fun b1 => ?_
    show Sy.den F K _ _ [.int p0, .int p1, .lst 1 (p2.map rw_i.en), .int p3, .bool p4, .lst 2 (p5.map rw_ii.en), .bool p6, .bool p7, .int p8, .int p9, .int p10, .int p11, .int p12, .int p13, .int x0, .int b0, .int b1.1, .int b1.2] = _
    refine den_ite (b := (decide (b1.1 < b0))) rfl ?_ ?_
    refine den_ite (b := (decide (b0 < b1.2))) rfl ?_ ?_
    exact den_ret rfl
    refine den_back (vs := [.int (wrap64 (x0 + 1))]) rfl rfl ?_
    exact ih (wrap64 (x0 + 1))
    refine den_back (vs := [.int (wrap64 (x0 + 1))]) rfl rfl ?_
    exact ih (wrap64 (x0 + 1))
    exact den_bad _ _ _ _ _
    exact den_bad _ _ _ _ _
    refine den_back (vs := [.int (wrap64 (p13 + 1))]) rfl rfl ?_
    exact hJ2 (wrap64 (p13 + 1))
theorem gatherumlaw03_SpanCuts.l2_den (F : FnE) (K : Nat) (h12 : F 12 = gatherumlaw03_alive.app K) (h13 : F 13 = span_Cut.app K) (h14 : F 14 = gatherumlaw03_empty.app) (h15 : F 15 = gatherumlaw03_rising.app K) (Js : List (List PD → Option (List PD))) (J0 : List PD → Option (List PD)) (j0 : (Int) → Option (Bool)) (p0 : Int) (p1 : Int) (p2 : List (Int)) (p3 : Int) (p4 : Bool) (p5 : List (Int × Int)) (p6 : Bool) (p7 : Bool) (p8 : Int) (p9 : Int) (p10 : Int) (p11 : Int) (p12 : Int) (hJ0 : ∀ (y0 : Int), J0 [.int p0, .int p1, .lst 1 (p2.map rw_i.en), .int p3, .bool p4, .lst 2 (p5.map rw_ii.en), .bool p6, .bool p7, .int p8, .int p9, .int p10, .int p11, .int y0] = (j0 y0).map gatherumlaw03_SpanCuts.rr.en) : ∀ (k : Nat) (x0 : Int), iterF (fun J ρ' => den F K gatherumlaw03_SpanCuts.b2 (J :: J0 :: Js) ρ') k [.int p0, .int p1, .lst 1 (p2.map rw_i.en), .int p3, .bool p4, .lst 2 (p5.map rw_ii.en), .bool p6, .bool p7, .int p8, .int p9, .int p10, .int p11, .int p12, .int x0] = (gatherumlaw03_SpanCuts.l2 K p2 p5 k x0).map gatherumlaw03_SpanCuts.rr.en := by
  intro k
  induction k with
  | zero => intros; rfl
  | succ k ih =>
    intro x0
    show Sy.den F K gatherumlaw03_SpanCuts.b2 (iterF (fun J ρ' => Sy.den F K gatherumlaw03_SpanCuts.b2 (J :: J0 :: Js) ρ') k :: J0 :: Js) [.int p0, .int p1, .lst 1 (p2.map rw_i.en), .int p3, .bool p4, .lst 2 (p5.map rw_ii.en), .bool p6, .bool p7, .int p8, .int p9, .int p10, .int p11, .int p12, .int x0] = _
    revert ih
    generalize iterF (fun J ρ' => Sy.den F K gatherumlaw03_SpanCuts.b2 (J :: J0 :: Js) ρ') k = J2
    intro ih
    rw [gatherumlaw03_SpanCuts.l2]
    show Sy.den F K gatherumlaw03_SpanCuts.b2 _ [.int p0, .int p1, .lst 1 (p2.map rw_i.en), .int p3, .bool p4, .lst 2 (p5.map rw_ii.en), .bool p6, .bool p7, .int p8, .int p9, .int p10, .int p11, .int p12, .int x0] = _
    unfold gatherumlaw03_SpanCuts.b2
    refine den_ite (b := (decide (x0 < ((p2.length : Nat) : Int)))) (by simp only [pds, PC.pd, E.ev, B.ev, SE.ev, LE.rows, lensEv, kSl_eq, kPt_eq, ov_prop, List.getElem?_cons_zero, List.getElem?_cons_succ, List.length_map, Nat.add_zero, Nat.zero_add, Option.bind_some, Option.map_some, if_true, Subtype.eta, mxi, mni, List.map_append, List.map_cons, List.map_nil, List.cons_append, List.nil_append, List.append_nil]) ?_ ?_
    refine den_loop (vs := [.int 0]) rfl ?_
    exact gatherumlaw03_SpanCuts.l3_den F K h12 h13 h14 h15 Js J0 j0 J2 (fun y0 => gatherumlaw03_SpanCuts.l2 K p2 p5 k y0) p0 p1 p2 p3 p4 p5 p6 p7 p8 p9 p10 p11 p12 x0 hJ0 ih K 0
    exact den_ret rfl
theorem gatherumlaw03_SpanCuts.l1_den (F : FnE) (K : Nat) (h12 : F 12 = gatherumlaw03_alive.app K) (h13 : F 13 = span_Cut.app K) (h14 : F 14 = gatherumlaw03_empty.app) (h15 : F 15 = gatherumlaw03_rising.app K) (Js : List (List PD → Option (List PD))) (J0 : List PD → Option (List PD)) (j0 : (Int) → Option (Bool)) (p0 : Int) (p1 : Int) (p2 : List (Int)) (p3 : Int) (p4 : Bool) (p5 : List (Int × Int)) (p6 : Bool) (p7 : Bool) (p8 : Int) (p9 : Int) (p10 : Int) (p11 : Int) (p12 : Int) (hJ0 : ∀ (y0 : Int), J0 [.int p0, .int p1, .lst 1 (p2.map rw_i.en), .int p3, .bool p4, .lst 2 (p5.map rw_ii.en), .bool p6, .bool p7, .int p8, .int p9, .int p10, .int p11, .int y0] = (j0 y0).map gatherumlaw03_SpanCuts.rr.en) : ∀ (k : Nat) (x0 : Int) (x1 : Bool), iterF (fun J ρ' => den F K gatherumlaw03_SpanCuts.b1 (J :: J0 :: Js) ρ') k [.int p0, .int p1, .lst 1 (p2.map rw_i.en), .int p3, .bool p4, .lst 2 (p5.map rw_ii.en), .bool p6, .bool p7, .int p8, .int p9, .int p10, .int p11, .int p12, .int x0, .bool x1] = (gatherumlaw03_SpanCuts.l1 j0 p2 p5 p12 k x0 x1).map gatherumlaw03_SpanCuts.rr.en := by
  intro k
  induction k with
  | zero => intros; rfl
  | succ k ih =>
    intro x0 x1
    show Sy.den F K gatherumlaw03_SpanCuts.b1 (iterF (fun J ρ' => Sy.den F K gatherumlaw03_SpanCuts.b1 (J :: J0 :: Js) ρ') k :: J0 :: Js) [.int p0, .int p1, .lst 1 (p2.map rw_i.en), .int p3, .bool p4, .lst 2 (p5.map rw_ii.en), .bool p6, .bool p7, .int p8, .int p9, .int p10, .int p11, .int p12, .int x0, .bool x1] = _
    revert ih
    generalize iterF (fun J ρ' => Sy.den F K gatherumlaw03_SpanCuts.b1 (J :: J0 :: Js) ρ') k = J1
    intro ih
    rw [gatherumlaw03_SpanCuts.l1]
    show Sy.den F K gatherumlaw03_SpanCuts.b1 _ [.int p0, .int p1, .lst 1 (p2.map rw_i.en), .int p3, .bool p4, .lst 2 (p5.map rw_ii.en), .bool p6, .bool p7, .int p8, .int p9, .int p10, .int p11, .int p12, .int x0, .bool x1] = _
    unfold gatherumlaw03_SpanCuts.b1
    refine den_ite (b := (decide (x0 < ((p2.length : Nat) : Int)))) (by simp only [pds, PC.pd, E.ev, B.ev, SE.ev, LE.rows, lensEv, kSl_eq, kPt_eq, ov_prop, List.getElem?_cons_zero, List.getElem?_cons_succ, List.length_map, Nat.add_zero, Nat.zero_add, Option.bind_some, Option.map_some, if_true, Subtype.eta, mxi, mni, List.map_append, List.map_cons, List.map_nil, List.cons_append, List.nil_append, List.append_nil]) ?_ ?_
    refine den_ite (b := x1) rfl ?_ ?_
    refine den_back (vs := [.int (wrap64 (x0 + 1)), .bool true]) rfl rfl ?_
    exact ih (wrap64 (x0 + 1)) true
    refine den_ite (b := (decide (0 ≤ x0))) rfl ?_ ?_
    refine den_get (L := p2) (rw := rw_i) rfl rfl rfl fun b0 => ?_
    show Sy.den F K _ _ [.int p0, .int p1, .lst 1 (p2.map rw_i.en), .int p3, .bool p4, .lst 2 (p5.map rw_ii.en), .bool p6, .bool p7, .int p8, .int p9, .int p10, .int p11, .int p12, .int x0, .bool x1, .int b0] = _
    refine den_ite (b := (decide (0 ≤ p12))) rfl ?_ ?_
    refine den_get (L := p5) (rw := rw_ii) rfl rfl rfl fun b1 => ?_
    show Sy.den F K _ _ [.int p0, .int p1, .lst 1 (p2.map rw_i.en), .int p3, .bool p4, .lst 2 (p5.map rw_ii.en), .bool p6, .bool p7, .int p8, .int p9, .int p10, .int p11, .int p12, .int x0, .bool x1, .int b0, .int b1.1, .int b1.2] = _
    refine den_back (vs := [.int (wrap64 (x0 + 1)), .bool (b0 == b1.1)]) rfl rfl ?_
    exact ih (wrap64 (x0 + 1)) (b0 == b1.1)
    exact den_bad _ _ _ _ _
    exact den_bad _ _ _ _ _
    refine den_ite (b := (decide (0 ≤ p12))) rfl ?_ ?_
    refine den_get (L := p5) (rw := rw_ii) rfl rfl rfl fun b0 => ?_
    show Sy.den F K _ _ [.int p0, .int p1, .lst 1 (p2.map rw_i.en), .int p3, .bool p4, .lst 2 (p5.map rw_ii.en), .bool p6, .bool p7, .int p8, .int p9, .int p10, .int p11, .int p12, .int x0, .bool x1, .int b0.1, .int b0.2] = _
    refine den_ite (b := (decide (0 ≤ (wrap64 (p12 - 1))))) rfl ?_ ?_
    refine den_ite (b := (decide ((wrap64 (p12 - 1)) < ((p5.length : Nat) : Int)))) (by simp only [pds, PC.pd, E.ev, B.ev, SE.ev, LE.rows, lensEv, kSl_eq, kPt_eq, ov_prop, List.getElem?_cons_zero, List.getElem?_cons_succ, List.length_map, Nat.add_zero, Nat.zero_add, Option.bind_some, Option.map_some, if_true, Subtype.eta, mxi, mni, List.map_append, List.map_cons, List.map_nil, List.cons_append, List.nil_append, List.append_nil]) ?_ ?_
    refine den_get (L := p5) (rw := rw_ii) rfl rfl rfl fun b1 => ?_
    show Sy.den F K _ _ [.int p0, .int p1, .lst 1 (p2.map rw_i.en), .int p3, .bool p4, .lst 2 (p5.map rw_ii.en), .bool p6, .bool p7, .int p8, .int p9, .int p10, .int p11, .int p12, .int x0, .bool x1, .int b0.1, .int b0.2, .int b1.1, .int b1.2] = _
    refine den_ite (b := (!(b0.1 == b1.2))) rfl ?_ ?_
    exact den_ret rfl
    refine den_ite (b := (!x1)) rfl ?_ ?_
    exact den_ret rfl
    refine den_back (vs := [.int (wrap64 (p12 + 1))]) rfl rfl ?_
    exact hJ0 (wrap64 (p12 + 1))
    exact den_bad _ _ _ _ _
    exact den_bad _ _ _ _ _
    exact den_bad _ _ _ _ _
theorem gatherumlaw03_SpanCuts.l0_den (F : FnE) (K : Nat) (h12 : F 12 = gatherumlaw03_alive.app K) (h13 : F 13 = span_Cut.app K) (h14 : F 14 = gatherumlaw03_empty.app) (h15 : F 15 = gatherumlaw03_rising.app K) (Js : List (List PD → Option (List PD))) (p0 : Int) (p1 : Int) (p2 : List (Int)) (p3 : Int) (p4 : Bool) (p5 : List (Int × Int)) (p6 : Bool) (p7 : Bool) (p8 : Int) (p9 : Int) (p10 : Int) (p11 : Int) : ∀ (k : Nat) (x0 : Int), iterF (fun J ρ' => den F K gatherumlaw03_SpanCuts.b0 (J :: Js) ρ') k [.int p0, .int p1, .lst 1 (p2.map rw_i.en), .int p3, .bool p4, .lst 2 (p5.map rw_ii.en), .bool p6, .bool p7, .int p8, .int p9, .int p10, .int p11, .int x0] = (gatherumlaw03_SpanCuts.l0 K p2 p5 k x0).map gatherumlaw03_SpanCuts.rr.en := by
  intro k
  induction k with
  | zero => intros; rfl
  | succ k ih =>
    intro x0
    show Sy.den F K gatherumlaw03_SpanCuts.b0 (iterF (fun J ρ' => Sy.den F K gatherumlaw03_SpanCuts.b0 (J :: Js) ρ') k :: Js) [.int p0, .int p1, .lst 1 (p2.map rw_i.en), .int p3, .bool p4, .lst 2 (p5.map rw_ii.en), .bool p6, .bool p7, .int p8, .int p9, .int p10, .int p11, .int x0] = _
    revert ih
    generalize iterF (fun J ρ' => Sy.den F K gatherumlaw03_SpanCuts.b0 (J :: Js) ρ') k = J0
    intro ih
    rw [gatherumlaw03_SpanCuts.l0]
    show Sy.den F K gatherumlaw03_SpanCuts.b0 _ [.int p0, .int p1, .lst 1 (p2.map rw_i.en), .int p3, .bool p4, .lst 2 (p5.map rw_ii.en), .bool p6, .bool p7, .int p8, .int p9, .int p10, .int p11, .int x0] = _
    unfold gatherumlaw03_SpanCuts.b0
    refine den_ite (b := (decide (x0 < ((p5.length : Nat) : Int)))) (by simp only [pds, PC.pd, E.ev, B.ev, SE.ev, LE.rows, lensEv, kSl_eq, kPt_eq, ov_prop, List.getElem?_cons_zero, List.getElem?_cons_succ, List.length_map, Nat.add_zero, Nat.zero_add, Option.bind_some, Option.map_some, if_true, Subtype.eta, mxi, mni, List.map_append, List.map_cons, List.map_nil, List.cons_append, List.nil_append, List.append_nil]) ?_ ?_
    refine den_loop (vs := [.int 0, .bool false]) rfl ?_
    exact gatherumlaw03_SpanCuts.l1_den F K h12 h13 h14 h15 Js J0 (fun y0 => gatherumlaw03_SpanCuts.l0 K p2 p5 k y0) p0 p1 p2 p3 p4 p5 p6 p7 p8 p9 p10 p11 x0 ih K 0 false
    refine den_loop (vs := [.int 0]) rfl ?_
    exact gatherumlaw03_SpanCuts.l2_den F K h12 h13 h14 h15 Js J0 (fun y0 => gatherumlaw03_SpanCuts.l0 K p2 p5 k y0) p0 p1 p2 p3 p4 p5 p6 p7 p8 p9 p10 p11 x0 ih K 0
theorem gatherumlaw03_SpanCuts.den (F : FnE) (K : Nat) (h12 : F 12 = gatherumlaw03_alive.app K) (h13 : F 13 = span_Cut.app K) (h14 : F 14 = gatherumlaw03_empty.app) (h15 : F 15 = gatherumlaw03_rising.app K) (a0_0 : Int) (a0_1 : Int) (a1 : List (Int)) (a2 : Int) : Sy.den F K gatherumlaw03_SpanCuts.t [] [.int a0_0, .int a0_1, .lst 1 (a1.map rw_i.en), .int a2] = (gatherumlaw03_SpanCuts.f K a0_0 a0_1 a1 a2).map gatherumlaw03_SpanCuts.rr.en := by
  unfold gatherumlaw03_SpanCuts.t gatherumlaw03_SpanCuts.f
  refine den_ask (ps := []) (rr := gatherumlaw03_alive.rr) (G := gatherumlaw03_alive.f K) (by rw [h12]; exact gatherumlaw03_alive.ap K) rfl rfl fun b0 => ?_
  show Sy.den F K _ _ [.int a0_0, .int a0_1, .lst 1 (a1.map rw_i.en), .int a2, .bool b0] = _
  refine den_ite (b := (!b0)) rfl ?_ ?_
  exact den_ret rfl
  refine den_ite (b := (decide (60 < ((a1.length : Nat) : Int)))) (by simp only [pds, PC.pd, E.ev, B.ev, SE.ev, LE.rows, lensEv, kSl_eq, kPt_eq, ov_prop, List.getElem?_cons_zero, List.getElem?_cons_succ, List.length_map, Nat.add_zero, Nat.zero_add, Option.bind_some, Option.map_some, if_true, Subtype.eta, mxi, mni, List.map_append, List.map_cons, List.map_nil, List.cons_append, List.nil_append, List.append_nil]) ?_ ?_
  exact den_ret rfl
  refine den_ask (ps := [.int a0_0, .int a0_1, .lst 1 (a1.map rw_i.en)]) (rr := span_Cut.rr) (G := span_Cut.f K a0_0 a0_1 a1) (by rw [h13]; exact span_Cut.ap K a0_0 a0_1 a1) (by simp only [pds, PC.pd, E.ev, B.ev, SE.ev, LE.rows, lensEv, kSl_eq, kPt_eq, ov_prop, List.getElem?_cons_zero, List.getElem?_cons_succ, List.length_map, Nat.add_zero, Nat.zero_add, Option.bind_some, Option.map_some, if_true, Subtype.eta, mxi, mni, List.map_append, List.map_cons, List.map_nil, List.cons_append, List.nil_append, List.append_nil]) rfl fun b1 => ?_
  show Sy.den F K _ _ [.int a0_0, .int a0_1, .lst 1 (a1.map rw_i.en), .int a2, .bool b0, .lst 2 (b1.map rw_ii.en)] = _
  refine den_ask (ps := [.int a0_0, .int a0_1]) (rr := gatherumlaw03_empty.rr) (G := gatherumlaw03_empty.f a0_0 a0_1) (by rw [h14]; exact gatherumlaw03_empty.ap a0_0 a0_1) rfl rfl fun b2 => ?_
  show Sy.den F K _ _ [.int a0_0, .int a0_1, .lst 1 (a1.map rw_i.en), .int a2, .bool b0, .lst 2 (b1.map rw_ii.en), .bool b2] = _
  refine den_ite (b := b2) rfl ?_ ?_
  exact den_ret (by simp only [pds, PC.pd, E.ev, B.ev, SE.ev, LE.rows, lensEv, kSl_eq, kPt_eq, ov_prop, List.getElem?_cons_zero, List.getElem?_cons_succ, List.length_map, Nat.add_zero, Nat.zero_add, Option.bind_some, Option.map_some, if_true, Subtype.eta, mxi, mni, List.map_append, List.map_cons, List.map_nil, List.cons_append, List.nil_append, List.append_nil, gatherumlaw03_SpanCuts.rr_en])
  refine den_ask (ps := [.lst 2 (b1.map rw_ii.en), .int a0_0, .int a0_1]) (rr := gatherumlaw03_rising.rr) (G := gatherumlaw03_rising.f K b1 a0_0 a0_1) (by rw [h15]; exact gatherumlaw03_rising.ap K b1 a0_0 a0_1) (by simp only [pds, PC.pd, E.ev, B.ev, SE.ev, LE.rows, lensEv, kSl_eq, kPt_eq, ov_prop, List.getElem?_cons_zero, List.getElem?_cons_succ, List.length_map, Nat.add_zero, Nat.zero_add, Option.bind_some, Option.map_some, if_true, Subtype.eta, mxi, mni, List.map_append, List.map_cons, List.map_nil, List.cons_append, List.nil_append, List.append_nil]) rfl fun b3 => ?_
  show Sy.den F K _ _ [.int a0_0, .int a0_1, .lst 1 (a1.map rw_i.en), .int a2, .bool b0, .lst 2 (b1.map rw_ii.en), .bool b2, .bool b3] = _
  refine den_ite (b := (!b3)) rfl ?_ ?_
  exact den_ret rfl
  refine den_ite (b := (((b1.length : Nat) : Int) == 0)) (by simp only [pds, PC.pd, E.ev, B.ev, SE.ev, LE.rows, lensEv, kSl_eq, kPt_eq, ov_prop, List.getElem?_cons_zero, List.getElem?_cons_succ, List.length_map, Nat.add_zero, Nat.zero_add, Option.bind_some, Option.map_some, if_true, Subtype.eta, mxi, mni, List.map_append, List.map_cons, List.map_nil, List.cons_append, List.nil_append, List.append_nil]) ?_ ?_
  exact den_ret rfl
  refine den_ite (b := (decide (0 < ((b1.length : Nat) : Int)))) (by simp only [pds, PC.pd, E.ev, B.ev, SE.ev, LE.rows, lensEv, kSl_eq, kPt_eq, ov_prop, List.getElem?_cons_zero, List.getElem?_cons_succ, List.length_map, Nat.add_zero, Nat.zero_add, Option.bind_some, Option.map_some, if_true, Subtype.eta, mxi, mni, List.map_append, List.map_cons, List.map_nil, List.cons_append, List.nil_append, List.append_nil]) ?_ ?_
  refine den_get (L := b1) (rw := rw_ii) rfl rfl rfl fun b4 => ?_
  show Sy.den F K _ _ [.int a0_0, .int a0_1, .lst 1 (a1.map rw_i.en), .int a2, .bool b0, .lst 2 (b1.map rw_ii.en), .bool b2, .bool b3, .int b4.1, .int b4.2] = _
  refine den_ite (b := (!(b4.1 == a0_0))) rfl ?_ ?_
  exact den_ret rfl
  refine den_ite (b := (decide (0 ≤ (wrap64 (((b1.length : Nat) : Int) - 1))))) (by simp only [pds, PC.pd, E.ev, B.ev, SE.ev, LE.rows, lensEv, kSl_eq, kPt_eq, ov_prop, List.getElem?_cons_zero, List.getElem?_cons_succ, List.length_map, Nat.add_zero, Nat.zero_add, Option.bind_some, Option.map_some, if_true, Subtype.eta, mxi, mni, List.map_append, List.map_cons, List.map_nil, List.cons_append, List.nil_append, List.append_nil]) ?_ ?_
  refine den_ite (b := (decide ((wrap64 (((b1.length : Nat) : Int) - 1)) < ((b1.length : Nat) : Int)))) (by simp only [pds, PC.pd, E.ev, B.ev, SE.ev, LE.rows, lensEv, kSl_eq, kPt_eq, ov_prop, List.getElem?_cons_zero, List.getElem?_cons_succ, List.length_map, Nat.add_zero, Nat.zero_add, Option.bind_some, Option.map_some, if_true, Subtype.eta, mxi, mni, List.map_append, List.map_cons, List.map_nil, List.cons_append, List.nil_append, List.append_nil]) ?_ ?_
  refine den_get (L := b1) (rw := rw_ii) rfl (by simp only [pds, PC.pd, E.ev, B.ev, SE.ev, LE.rows, lensEv, kSl_eq, kPt_eq, ov_prop, List.getElem?_cons_zero, List.getElem?_cons_succ, List.length_map, Nat.add_zero, Nat.zero_add, Option.bind_some, Option.map_some, if_true, Subtype.eta, mxi, mni, List.map_append, List.map_cons, List.map_nil, List.cons_append, List.nil_append, List.append_nil]) rfl fun b5 => ?_
  show Sy.den F K _ _ [.int a0_0, .int a0_1, .lst 1 (a1.map rw_i.en), .int a2, .bool b0, .lst 2 (b1.map rw_ii.en), .bool b2, .bool b3, .int b4.1, .int b4.2, .int b5.1, .int b5.2] = _
  refine den_ite (b := (!(b5.2 == a0_1))) rfl ?_ ?_
  exact den_ret rfl
  refine den_loop (vs := [.int 1]) rfl ?_
  exact gatherumlaw03_SpanCuts.l0_den F K h12 h13 h14 h15 [] a0_0 a0_1 a1 a2 b0 b1 b2 b3 b4.1 b4.2 b5.1 b5.2 K 1
  exact den_bad _ _ _ _ _
  exact den_bad _ _ _ _ _
  exact den_bad _ _ _ _ _
theorem gatherumlaw03_SpanCuts.ok (F : FnE) (K : Nat) (h12 : F 12 = gatherumlaw03_alive.app K) (h13 : F 13 = span_Cut.app K) (h14 : F 14 = gatherumlaw03_empty.app) (h15 : F 15 = gatherumlaw03_rising.app K) (ps r : List PD) (h : gatherumlaw03_SpanCuts.app K ps = some r) : Sy.den F K gatherumlaw03_SpanCuts.t [] ps = some r := by
  obtain ⟨a, rfl, h2⟩ := app_ok (ra := gatherumlaw03_SpanCuts.ra) (rr := gatherumlaw03_SpanCuts.rr) (f := fun x => gatherumlaw03_SpanCuts.f K x.1 x.2.1 x.2.2.1 x.2.2.2) h
  rw [← h2]
  exact gatherumlaw03_SpanCuts.den F K h12 h13 h14 h15 (a.1) (a.2.1) (a.2.2.1) (a.2.2.2)
theorem gatherumlaw03_SpanCuts.calls (K : Nat) (a0_0 : Int) (a0_1 : Int) (a1 : List (Int)) (a2 : Int) (w : World) (S : Nat → Prop) (hS : ∀ b, S b → b < w.heap.size) (vals : List Value) (hv : RepArgs w S gatherumlaw03_SpanCuts.sg [.int a0_0, .int a0_1, .lst 1 (a1.map rw_i.en), .int a2] vals) (h : gatherumlaw03_SpanCuts.f K a0_0 a0_1 a1 a2 = some true) :
    Calls Try.prog 3 vals.toArray w fun e w' => e = .returned (.bool true) ∧ Below w.heap.size w w' := by
  refine (fn_callsD (r := [.bool true]) gatherumlaw03_SpanCuts.is rfl (by decide +kernel) envOk relOk relNp mix (exts_ok rfl rfl rfl) (gd15 K) (Den_of_den _ [] [] _ (fun d j hj => by simp at hj) (by rw [gatherumlaw03_SpanCuts.den _ K rfl rfl rfl rfl, h]; rfl)) hS hv).mono fun e w' he => ?_
  cases e with
  | returned u => exact ⟨by rw [bool_ans he.1], he.2⟩
  | panicked c => exact he.elim
  | outgrown => exact he.elim
end Go.Proofs.Ytpicoedbkeljoaa.XSpanCuts
