/- What the functions of the law CoverJoins compute: written by sygen.py from the executor's answers. -/
import Derived.Test.YtpicoedbkeljoaaHc
import Derived.Test.YtpicoedbkeljoaaHv3
import Derived.Test.YtpicoedbkeljoaaHi
import Derived.Test.YtpicoedbkeljoaaSyB
import Derived.Test.YtpicoedbkeljoaaProg
import Derived.KernelRfl
set_option linter.unusedVariables false
set_option linter.unusedSimpArgs false
set_option maxRecDepth 100000
set_option maxHeartbeats 4000000
namespace Go.Proofs.Ytpicoedbkeljoaa.XCoverJoins
open Go Go.RowKit Go.Proofs Go.Proofs.Ytpicoedbkeljoaa.Sy
noncomputable def cap17592186044416 : Int := 17592186044416
noncomputable def cap4398046511104 : Int := 4398046511104
noncomputable def cap8796093022208 : Int := 8796093022208
noncomputable def ty3 : TD := ⟨(TypeDesc.int IntKind.i64), (.int .i64 0), 1, 8⟩
noncomputable def ty4 : TD := ⟨TypeDesc.bool, (.bool false), 1, 1⟩
noncomputable def ty24 : TD := ⟨(TypeDesc.slice 3), (.slice none 0 0), 1, 24⟩
noncomputable def ty37 : TD := ⟨(TypeDesc.struct #[{ name := "X0", type := 3, offset := 0, embedded := false, tag := "", pkgPath := "", byteOffset := 0 }, { name := "Y0", type := 3, offset := 1, embedded := false, tag := "", pkgPath := "", byteOffset := 8 }, { name := "X1", type := 3, offset := 2, embedded := false, tag := "", pkgPath := "", byteOffset := 16 }, { name := "Y1", type := 3, offset := 3, embedded := false, tag := "", pkgPath := "", byteOffset := 24 }]), (.agg #[.int .i64 0, .int .i64 0, .int .i64 0, .int .i64 0]), 4, 32⟩
noncomputable def ty38 : TD := ⟨(TypeDesc.slice 37), (.slice none 0 0), 1, 24⟩
noncomputable def ty97 : TD := ⟨(TypeDesc.slice 99), (.slice none 0 0), 1, 24⟩
noncomputable def ty99 : TD := ⟨(TypeDesc.struct #[{ name := "at", type := 3, offset := 0, embedded := false, tag := "", pkgPath := "gatherum/cover", byteOffset := 0 }, { name := "by", type := 3, offset := 1, embedded := false, tag := "", pkgPath := "gatherum/cover", byteOffset := 8 }]), (.agg #[.int .i64 0, .int .i64 0]), 2, 16⟩
noncomputable def tys : List (Nat × TD) := [(3, ty3), (4, ty4), (24, ty24), (37, ty37), (38, ty38), (97, ty97), (99, ty99)]
noncomputable def flats : List Nat := [37, 99]
noncomputable def kds : List (Nat × List K4) := [(3, [.i]), (4, [.b]), (24, [(.l 3 1)]), (37, [.i, .i, .i, .i]), (38, [(.l 37 4)]), (97, [(.l 99 2)]), (99, [.i, .i])]
noncomputable def fns : List (Nat × List S1 × Sh) := [(30, [(.agg [.i, .i, .i, .i])], (.one (.one .b))), (52, [(.one .i), (.one .i)], (.one (.one .i))), (53, [(.one .i), (.one .i)], (.one (.one .i))), (32, [(.agg [.i, .i, .i, .i]), (.agg [.i, .i, .i, .i])], (.one (.agg [.i, .i, .i, .i]))), (45, [(.agg [.i, .i, .i, .i])], (.one (.one .b))), (57, [(.one (.l 37 4))], (.one (.one (.l 3 1)))), (69, [(.agg [.i, .i]), (.agg [.i, .i])], (.one (.one .i))), (58, [(.one .i), (.one (.l 37 4))], (.one (.one .i))), (37, [(.one .i), (.one (.l 37 4))], (.one (.one .i))), (35, [(.one (.l 37 4))], (.one (.one .i))), (33, [], (.one (.one .b))), (38, [(.agg [.i, .i, .i, .i])], (.one (.one .i))), (10, [(.agg [.i, .i, .i, .i]), (.agg [.i, .i, .i, .i]), (.agg [.i, .i, .i, .i])], (.one (.one .b))), (4000193, [], .one (.one (.l 3 1))), (4002372, [], .one (.one (.l 37 4))), (4006338, [], .one (.one (.l 99 2)))]
noncomputable def env : Env := ⟨tys, eqsOf tys flats flats, kds, fns⟩
noncomputable def tab2 : List (Nat × O2E) := [(67, ⟨1000006, 3, 1, []⟩), (55, ⟨1000007, 37, 4, [45]⟩)]
noncomputable def tab : List (Nat × OwE) := [(41, ⟨false, PCLI, 3, 1, [], 1⟩), (42, ⟨true, PSTI, 3, 1, [], 1⟩), (56, ⟨false, 1001037, 37, 4, [], 4⟩), (68, ⟨true, 1000005, 99, 2, [69], 2⟩), (61, ⟨false, 1000008, 37, 4, [], 1⟩)]
noncomputable def stab : List (Nat × Nat) := []
noncomputable def exts (n : Nat) : Ext := orExt noExt (orExt (subExt env n) (orExt (owExt n tab) (orExt (o2Ext n tab2) (setExt env n stab))))
noncomputable def rel : List (Nat × RelE) := []
theorem tysOk : TysOk Try.prog tys := (tys_cons (tys_cons (tys_cons (tys_cons (tys_cons (tys_cons (tys_cons tys_nil (t := 99) (td := ty99) Try.underlying99 (by kernel_rfl)) (t := 97) (td := ty97) Try.underlying97 (by kernel_rfl)) (t := 38) (td := ty38) Try.underlying38 (by kernel_rfl)) (t := 37) (td := ty37) Try.underlying37 (by kernel_rfl)) (t := 24) (td := ty24) Try.underlying24 (by kernel_rfl)) (t := 4) (td := ty4) Try.underlying4 (by kernel_rfl)) (t := 3) (td := ty3) Try.underlying3 (by kernel_rfl))
theorem flatOk : FlatOk Try.prog flats := (flat_cons (flat_cons flat_nil (t := 99) (by kernel_rfl) (by kernel_rfl)) (t := 37) (by kernel_rfl) (by kernel_rfl))
theorem envOk : EnvOk Try.prog env := env_ok tysOk flatOk kds fns
theorem mix : Try.prog.follows .mixedOrders = true := by kernel_rfl
theorem relOk : GoodR Try.prog rel := goodR_nil
theorem relNp : RelNoPt rel := relNoPt_nil
noncomputable def l0 (K : Nat) : List (Nat × App) := [(1000001, subApp), (1000002, cliApp), (1000003, stiApp), (1000004, getApp), (1000005, Hv.sfApp), (1000006, Hv.coApp), (1000007, Hv.dfApp), (1000008, Hv.ccApp), (1001037, (cloApp 32 4)), (4000193, (mkApp 1)), (4002372, (mkApp 4)), (4006338, (mkApp 2))]
theorem gd0 (K : Nat) : Sy.Good Try.prog fns (mkF (l0 K)) := (good_ps (by kernel_rfl) (good_ps (by kernel_rfl) (good_ps (by kernel_rfl) (good_ps (by kernel_rfl) (good_ps (by kernel_rfl) (good_ps (by kernel_rfl) (good_ps (by kernel_rfl) (good_ps (by kernel_rfl) (good_ps (by kernel_rfl) (good_mk (et := 3) (sz := 1) (good_mk (et := 37) (sz := 4) (good_mk (et := 99) (sz := 2) good_nil))) (cloApp 32 4)) Hv.ccApp) Hv.dfApp) Hv.coApp) Hv.sfApp) getApp) stiApp) cliApp) subApp)
theorem exts_ok {F : FnE} {n : Nat} (h1000001 : F 1000001 = subApp) (h1000002 : F 1000002 = cliApp) (h1000003 : F 1000003 = stiApp) (h1000004 : F 1000004 = getApp) (h1000005 : F 1000005 = Hv.sfApp) (h1000006 : F 1000006 = Hv.coApp) (h1000007 : F 1000007 = Hv.dfApp) (h1000008 : F 1000008 = Hv.ccApp) (h1001037 : F 1001037 = (cloApp 32 4)) (h4000193 : F 4000193 = (mkApp 1)) (h4002372 : F 4002372 = (mkApp 4)) (h4006338 : F 4006338 = (mkApp 2)) : ExtOk Try.prog F n (exts n) := orExt_ok noExt_ok (orExt_ok (subExt_ok envOk h1000001) (orExt_ok (owExt_ok (owOk_cons (by simpa [pclo] using Go.Proofs.Ytpicoedbkeljoaa.Hi.clone_ok h1000002) (owOk_cons (by simpa [pclo] using Go.Proofs.Ytpicoedbkeljoaa.Hi.sort_ok h1000003) (owOk_cons (by simpa [pclo] using Go.Proofs.Ytpicoedbkeljoaa.Hc.clone56_ok h1001037) (owOk_cons (by simpa [pclo] using Go.Proofs.Ytpicoedbkeljoaa.Hv.sortF_ok h1000005) (owOk_cons (by simpa [pclo] using Go.Proofs.Ytpicoedbkeljoaa.Hv.concat_ok h1000008) owOk_nil)))))) (orExt_ok (o2Ext_ok (o2Ok_cons (by simpa using Go.Proofs.Ytpicoedbkeljoaa.Hv.compact_ok h1000006) (o2Ok_cons (by simpa using Go.Proofs.Ytpicoedbkeljoaa.Hv.del_ok h1000007) o2Ok_nil))) (setExt_ok envOk mem_zero))))
noncomputable def kSl : Ov := ⟨.slice none 0 0, rfl⟩
theorem kSl_eq : Value.slice none 0 0 = kSl.1 := rfl
noncomputable def kPt : Ov := ⟨.pointer none, rfl⟩
theorem kPt_eq : Value.pointer none = kPt.1 := rfl
noncomputable def rw_iiii : Rw (Int × Int × Int × Int) := (rwP rwI (rwP rwI (rwP rwI rwI)))
theorem rw_iiii_en (r : Int × Int × Int × Int) : rw_iiii.en r = [.int r.1, .int r.2.1, .int r.2.2.1, .int r.2.2.2] := rfl
theorem rw_iiii_one (r0 : Int) (r1 : Int) (r2 : Int) (r3 : Int) : ([[.int r0, .int r1, .int r2, .int r3]] : List (List PD)) = [(r0, r1, r2, r3)].map rw_iiii.en := rfl
theorem rw_iiii_cons (r0 : Int) (r1 : Int) (r2 : Int) (r3 : Int) (l : List (Int × Int × Int × Int)) : ([.int r0, .int r1, .int r2, .int r3] :: l.map rw_iiii.en : List (List PD)) = ((r0, r1, r2, r3) :: l).map rw_iiii.en := rfl
theorem rw_iiii_nil : (PD.lst 4 [] : PD) = PD.lst 4 (([] : List (Int × Int × Int × Int)).map rw_iiii.en) := rfl
noncomputable def rw_i : Rw (Int) := rwI
theorem rw_i_en (r : Int) : rw_i.en r = [.int r] := rfl
theorem rw_i_one (r0 : Int) : ([[.int r0]] : List (List PD)) = [(r0)].map rw_i.en := rfl
theorem rw_i_cons (r0 : Int) (l : List (Int)) : ([.int r0] :: l.map rw_i.en : List (List PD)) = ((r0) :: l).map rw_i.en := rfl
theorem rw_i_nil : (PD.lst 1 [] : PD) = PD.lst 1 (([] : List (Int)).map rw_i.en) := rfl
noncomputable def rw_ii : Rw (Int × Int) := (rwP rwI rwI)
theorem rw_ii_en (r : Int × Int) : rw_ii.en r = [.int r.1, .int r.2] := rfl
theorem rw_ii_one (r0 : Int) (r1 : Int) : ([[.int r0, .int r1]] : List (List PD)) = [(r0, r1)].map rw_ii.en := rfl
theorem rw_ii_cons (r0 : Int) (r1 : Int) (l : List (Int × Int)) : ([.int r0, .int r1] :: l.map rw_ii.en : List (List PD)) = ((r0, r1) :: l).map rw_ii.en := rfl
theorem rw_ii_nil : (PD.lst 2 [] : PD) = PD.lst 2 (([] : List (Int × Int)).map rw_ii.en) := rfl
theorem den_ite {F : FnE} {K : Nat} {c : B} {x y : Tree} {Js : List (List PD → Option (List PD))} {ρ : List PD} {b : Bool} {α : Type} {X Y : Option α} {g : α → List PD} (hc : c.ev ρ = some b) (hx : Sy.den F K x Js ρ = X.map g) (hy : Sy.den F K y Js ρ = Y.map g) : Sy.den F K (.ite c x y) Js ρ = (if b = true then X else Y).map g := by
  rw [Sy.den, hc, Option.bind_some]; cases b
  · exact hy
  · exact hx
theorem den_ask {F : FnE} {K f : Nat} {args : List PC} {ks : List K4} {k : Tree} {Js : List (List PD → Option (List PD))} {ρ ps : List PD} {α β : Type} {G : Option β} {X : β → Option α} {g : α → List PD} {rr : Rw β} (ha : F f ps = G.map rr.en) (hp : pds ρ args = some ps) (hk : rr.ks = ks) (h : ∀ b, Sy.den F K k Js (ρ ++ rr.en b) = (X b).map g) : Sy.den F K (.ask f args ks k) Js ρ = (G.bind X).map g := by
  rw [Sy.den, hp, Option.bind_some, ha]
  cases G with
  | none => rfl
  | some b => subst hk; simp only [Option.map_some, Option.bind_some, rr.hok, if_true]; exact h b
theorem den_get {F : FnE} {K l sz : Nat} {i : E} {ks : List K4} {k : Tree} {Js : List (List PD → Option (List PD))} {ρ : List PD} {α β : Type} {L : List β} {X : β → Option α} {g : α → List PD} {rw : Rw β} {iv : Int} (hl : ρ[l]? = some (.lst sz (L.map rw.en))) (hi : i.ev ρ = some iv) (hk : rw.ks = ks) (h : ∀ b, Sy.den F K k Js (ρ ++ rw.en b) = (X b).map g) : Sy.den F K (.get l i ks k) Js ρ = ((L[iv.toNat]?).bind X).map g := by
  rw [Sy.den, hl]
  simp only [hi, Option.bind_some, List.getElem?_map]
  cases L[iv.toNat]? with
  | none => rfl
  | some b => subst hk; simp only [Option.map_some, Option.bind_some, rw.hok, if_true]; exact h b
theorem den_fix {F : FnE} {K sz : Nat} {L : LE} {k : Tree} {Js : List (List PD → Option (List PD))} {ρ : List PD} {α : Type} {rows : List (List PD)} {X : Option α} {g : α → List PD} (hL : LE.rows ρ L = some rows) (h : Sy.den F K k Js (ρ ++ [.lst sz rows]) = X.map g) : Sy.den F K (.fix L sz k) Js ρ = X.map g := by
  rw [Sy.den, hL]; exact h
theorem den_loop {F : FnE} {K : Nat} {args : List PC} {ks : List K4} {body : Tree} {Js : List (List PD → Option (List PD))} {ρ vs : List PD} {α : Type} {X : Option α} {g : α → List PD} (hp : pds ρ args = some vs) (h : iterF (fun J ρ' => Sy.den F K body (J :: Js) ρ') K (ρ ++ vs) = X.map g) : Sy.den F K (.loop args ks body) Js ρ = X.map g := by
  rw [Sy.den, hp]; exact h
theorem den_back {F : FnE} {K d p0 : Nat} {args : List PC} {Js : List (List PD → Option (List PD))} {ρ vs : List PD} {α : Type} {X : Option α} {g : α → List PD} {J : List PD → Option (List PD)} (hp : pds ρ args = some vs) (hJ : Js[d]? = some J) (h : J (ρ.take p0 ++ vs) = X.map g) : Sy.den F K (.back d p0 args) Js ρ = X.map g := by
  rw [Sy.den, hp, Option.bind_some, hJ]; exact h
theorem dens_ite {F : FnE} {c : B} {x y : Tree} {sup : List Ov} {ρ : List PD} {b : Bool} {α : Type} {X Y : Option α} {g : α → List PD} (hc : c.ev ρ = some b) (hx : Sy.denS F x ρ sup = X.map g) (hy : Sy.denS F y ρ sup = Y.map g) : Sy.denS F (.ite c x y) ρ sup = (if b = true then X else Y).map g := by
  rw [Sy.denS, hc, Option.bind_some]; cases b
  · exact hy
  · exact hx
theorem dens_ask {F : FnE} {f : Nat} {args : List PC} {ks : List K4} {k : Tree} {sup : List Ov} {ρ ps : List PD} {α β : Type} {G : Option β} {X : β → Option α} {g : α → List PD} {rr : Rw β} (ha : F f ps = G.map rr.en) (hp : pds ρ args = some ps) (hk : rr.ks = ks) (h : ∀ b, Sy.denS F k (ρ ++ rr.en b) sup = (X b).map g) : Sy.denS F (.ask f args ks k) ρ sup = (G.bind X).map g := by
  rw [Sy.denS, hp, Option.bind_some, ha]
  cases G with
  | none => rfl
  | some b => subst hk; simp only [Option.map_some, Option.bind_some, rr.hok, if_true]; exact h b
theorem dens_get {F : FnE} {l sz : Nat} {i : E} {ks : List K4} {k : Tree} {sup : List Ov} {ρ : List PD} {α β : Type} {L : List β} {X : β → Option α} {g : α → List PD} {rw : Rw β} {iv : Int} (hl : ρ[l]? = some (.lst sz (L.map rw.en))) (hi : i.ev ρ = some iv) (hk : rw.ks = ks) (h : ∀ b, Sy.denS F k (ρ ++ rw.en b) sup = (X b).map g) : Sy.denS F (.get l i ks k) ρ sup = ((L[iv.toNat]?).bind X).map g := by
  rw [Sy.denS, hl]
  simp only [hi, Option.bind_some, List.getElem?_map]
  cases L[iv.toNat]? with
  | none => rfl
  | some b => subst hk; simp only [Option.map_some, Option.bind_some, rw.hok, if_true]; exact h b
theorem dens_fix {F : FnE} {sz : Nat} {L : LE} {k : Tree} {sup : List Ov} {ρ : List PD} {α : Type} {rows : List (List PD)} {X : Option α} {g : α → List PD} (hL : LE.rows ρ L = some rows) (h : Sy.denS F k (ρ ++ [.lst sz rows]) sup = X.map g) : Sy.denS F (.fix L sz k) ρ sup = X.map g := by
  rw [Sy.denS, hL]; exact h
theorem dens_cst {F : FnE} {n : Nat} {k : Tree} {sup l rest : List Ov} {ρ : List PD} {α : Type} {X : Option α} {g : α → List PD} (hs : sup = l ++ rest) (hl : l.length = n) (h : Sy.denS F k (ρ ++ ovs l) rest = X.map g) : Sy.denS F (.cst n k) ρ sup = X.map g := by
  subst hs hl
  rw [Sy.denS, if_pos (by rw [List.length_append]; omega), List.take_left, List.drop_left]; exact h
theorem dens_ret {F : FnE} {l : List PC} {sup : List Ov} {ρ : List PD} {α : Type} {X : Option α} {g : α → List PD} (hp : pds ρ l = X.map g) : Sy.denS F (.ret l) ρ sup = X.map g := hp
theorem dens_bad (F : FnE) (ρ : List PD) (sup : List Ov) {α : Type} (g : α → List PD) : Sy.denS F .bad ρ sup = (none : Option α).map g := rfl
theorem den_ret {F : FnE} {K : Nat} {l : List PC} {Js : List (List PD → Option (List PD))} {ρ : List PD} {α : Type} {X : Option α} {g : α → List PD} (hp : pds ρ l = X.map g) : Sy.den F K (.ret l) Js ρ = X.map g := hp
theorem den_bad (F : FnE) (K : Nat) (Js : List (List PD → Option (List PD))) (ρ : List PD) {α : Type} (g : α → List PD) : Sy.den F K .bad Js ρ = (none : Option α).map g := rfl
/-! ### gatherumref04_Empty: function 30 -/
noncomputable def gatherumref04_Empty.body : Code := Try.f30.body.getD .skip
noncomputable def gatherumref04_Empty.sg : List S1 := [(.agg [.i, .i, .i, .i])]
noncomputable def gatherumref04_Empty.sh : Sh := (.one (.one .b))
noncomputable def gatherumref04_Empty.cf : Cfg := ⟨env, Try.f30.ntmps, Try.f30.results.toList, some gatherumref04_Empty.sh, rel, [], [], (exts Try.f30.ntmps)⟩
noncomputable def gatherumref04_Empty.t : Tree := (.ite (.le (.va 2) (.va 0)) (.ret [(.bo (.co true))]) (.ret [(.bo (.le (.va 3) (.va 1)))]))
noncomputable def gatherumref04_Empty.ra : Rw (Int × Int × Int × Int) := (rwP rwI (rwP rwI (rwP rwI rwI)))
noncomputable def gatherumref04_Empty.rr : Rw (Bool) := rwB
theorem gatherumref04_Empty.rr_en (r : Bool) : gatherumref04_Empty.rr.en r = [.bool r] := rfl
noncomputable def gatherumref04_Empty.f (a0_0 : Int) (a0_1 : Int) (a0_2 : Int) (a0_3 : Int) : Option (Bool) := (if (decide (a0_2 ≤ a0_0)) = true then some true else some (decide (a0_3 ≤ a0_1)))
noncomputable def gatherumref04_Empty.app : App := fun ps => (gatherumref04_Empty.ra.de ps).bind fun x => (gatherumref04_Empty.f x.1 x.2.1 x.2.2.1 x.2.2.2).map gatherumref04_Empty.rr.en
theorem gatherumref04_Empty.ap (a0_0 : Int) (a0_1 : Int) (a0_2 : Int) (a0_3 : Int) : gatherumref04_Empty.app [.int a0_0, .int a0_1, .int a0_2, .int a0_3] = (gatherumref04_Empty.f a0_0 a0_1 a0_2 a0_3).map gatherumref04_Empty.rr.en := app_ap gatherumref04_Empty.ra gatherumref04_Empty.rr (fun x => gatherumref04_Empty.f x.1 x.2.1 x.2.2.1 x.2.2.2) (a0_0, a0_1, a0_2, a0_3)
theorem gatherumref04_Empty.is : FnIs Try.prog 30 (.init gatherumref04_Empty.sg) gatherumref04_Empty.t gatherumref04_Empty.cf := ⟨Try.f30, gatherumref04_Empty.body, 6000, Try.func30, by kernel_rfl, rfl, rfl, by decide +kernel, by kernel_rfl⟩
theorem gatherumref04_Empty.den (F : FnE) (K : Nat) (a0_0 : Int) (a0_1 : Int) (a0_2 : Int) (a0_3 : Int) : Sy.den F K gatherumref04_Empty.t [] [.int a0_0, .int a0_1, .int a0_2, .int a0_3] = (gatherumref04_Empty.f a0_0 a0_1 a0_2 a0_3).map gatherumref04_Empty.rr.en := by
  unfold gatherumref04_Empty.t gatherumref04_Empty.f
  refine den_ite (b := (decide (a0_2 ≤ a0_0))) rfl ?_ ?_
  exact den_ret rfl
  exact den_ret rfl
theorem gatherumref04_Empty.ok (F : FnE) (K : Nat) (ps r : List PD) (h : gatherumref04_Empty.app ps = some r) : Sy.den F K gatherumref04_Empty.t [] ps = some r := by
  obtain ⟨a, rfl, h2⟩ := app_ok (ra := gatherumref04_Empty.ra) (rr := gatherumref04_Empty.rr) (f := fun x => gatherumref04_Empty.f x.1 x.2.1 x.2.2.1 x.2.2.2) h
  rw [← h2]
  exact gatherumref04_Empty.den F K (a.1) (a.2.1) (a.2.2.1) (a.2.2.2)
noncomputable def l30 (K : Nat) : List (Nat × App) := (30, gatherumref04_Empty.app) :: l0 K
theorem gd30 (K : Nat) : Sy.Good Try.prog fns (mkF (l30 K)) := good_cons (K := K) gatherumref04_Empty.is rfl (by kernel_rfl) (by decide +kernel) envOk relOk relNp mix (gd0 K) (exts_ok rfl rfl rfl rfl rfl rfl rfl rfl rfl rfl rfl rfl) (gatherumref04_Empty.ok _ K)
/-! ### gatherumref04_high: function 52 -/
noncomputable def gatherumref04_high.body : Code := Try.f52.body.getD .skip
noncomputable def gatherumref04_high.sg : List S1 := [(.one .i), (.one .i)]
noncomputable def gatherumref04_high.sh : Sh := (.one (.one .i))
noncomputable def gatherumref04_high.cf : Cfg := ⟨env, Try.f52.ntmps, Try.f52.results.toList, some gatherumref04_high.sh, rel, [], [], (exts Try.f52.ntmps)⟩
noncomputable def gatherumref04_high.t : Tree := (.ite (.lt (.va 1) (.va 0)) (.ret [(.ex (.va 0))]) (.ret [(.ex (.va 1))]))
noncomputable def gatherumref04_high.ra : Rw (Int × Int) := (rwP rwI rwI)
noncomputable def gatherumref04_high.rr : Rw (Int) := rwI
theorem gatherumref04_high.rr_en (r : Int) : gatherumref04_high.rr.en r = [.int r] := rfl
noncomputable def gatherumref04_high.f (a0 : Int) (a1 : Int) : Option (Int) := (if (decide (a1 < a0)) = true then some a0 else some a1)
noncomputable def gatherumref04_high.app : App := fun ps => (gatherumref04_high.ra.de ps).bind fun x => (gatherumref04_high.f x.1 x.2).map gatherumref04_high.rr.en
theorem gatherumref04_high.ap (a0 : Int) (a1 : Int) : gatherumref04_high.app [.int a0, .int a1] = (gatherumref04_high.f a0 a1).map gatherumref04_high.rr.en := app_ap gatherumref04_high.ra gatherumref04_high.rr (fun x => gatherumref04_high.f x.1 x.2) (a0, a1)
theorem gatherumref04_high.is : FnIs Try.prog 52 (.init gatherumref04_high.sg) gatherumref04_high.t gatherumref04_high.cf := ⟨Try.f52, gatherumref04_high.body, 6000, Try.func52, by kernel_rfl, rfl, rfl, by decide +kernel, by kernel_rfl⟩
theorem gatherumref04_high.den (F : FnE) (K : Nat) (a0 : Int) (a1 : Int) : Sy.den F K gatherumref04_high.t [] [.int a0, .int a1] = (gatherumref04_high.f a0 a1).map gatherumref04_high.rr.en := by
  unfold gatherumref04_high.t gatherumref04_high.f
  refine den_ite (b := (decide (a1 < a0))) rfl ?_ ?_
  exact den_ret rfl
  exact den_ret rfl
theorem gatherumref04_high.ok (F : FnE) (K : Nat) (ps r : List PD) (h : gatherumref04_high.app ps = some r) : Sy.den F K gatherumref04_high.t [] ps = some r := by
  obtain ⟨a, rfl, h2⟩ := app_ok (ra := gatherumref04_high.ra) (rr := gatherumref04_high.rr) (f := fun x => gatherumref04_high.f x.1 x.2) h
  rw [← h2]
  exact gatherumref04_high.den F K (a.1) (a.2)
noncomputable def l52 (K : Nat) : List (Nat × App) := (52, gatherumref04_high.app) :: l30 K
theorem gd52 (K : Nat) : Sy.Good Try.prog fns (mkF (l52 K)) := good_cons (K := K) gatherumref04_high.is rfl (by kernel_rfl) (by decide +kernel) envOk relOk relNp mix (gd30 K) (exts_ok rfl rfl rfl rfl rfl rfl rfl rfl rfl rfl rfl rfl) (gatherumref04_high.ok _ K)
/-! ### gatherumref04_low: function 53 -/
noncomputable def gatherumref04_low.body : Code := Try.f53.body.getD .skip
noncomputable def gatherumref04_low.sg : List S1 := [(.one .i), (.one .i)]
noncomputable def gatherumref04_low.sh : Sh := (.one (.one .i))
noncomputable def gatherumref04_low.cf : Cfg := ⟨env, Try.f53.ntmps, Try.f53.results.toList, some gatherumref04_low.sh, rel, [], [], (exts Try.f53.ntmps)⟩
noncomputable def gatherumref04_low.t : Tree := (.ite (.lt (.va 0) (.va 1)) (.ret [(.ex (.va 0))]) (.ret [(.ex (.va 1))]))
noncomputable def gatherumref04_low.ra : Rw (Int × Int) := (rwP rwI rwI)
noncomputable def gatherumref04_low.rr : Rw (Int) := rwI
theorem gatherumref04_low.rr_en (r : Int) : gatherumref04_low.rr.en r = [.int r] := rfl
noncomputable def gatherumref04_low.f (a0 : Int) (a1 : Int) : Option (Int) := (if (decide (a0 < a1)) = true then some a0 else some a1)
noncomputable def gatherumref04_low.app : App := fun ps => (gatherumref04_low.ra.de ps).bind fun x => (gatherumref04_low.f x.1 x.2).map gatherumref04_low.rr.en
theorem gatherumref04_low.ap (a0 : Int) (a1 : Int) : gatherumref04_low.app [.int a0, .int a1] = (gatherumref04_low.f a0 a1).map gatherumref04_low.rr.en := app_ap gatherumref04_low.ra gatherumref04_low.rr (fun x => gatherumref04_low.f x.1 x.2) (a0, a1)
theorem gatherumref04_low.is : FnIs Try.prog 53 (.init gatherumref04_low.sg) gatherumref04_low.t gatherumref04_low.cf := ⟨Try.f53, gatherumref04_low.body, 6000, Try.func53, by kernel_rfl, rfl, rfl, by decide +kernel, by kernel_rfl⟩
theorem gatherumref04_low.den (F : FnE) (K : Nat) (a0 : Int) (a1 : Int) : Sy.den F K gatherumref04_low.t [] [.int a0, .int a1] = (gatherumref04_low.f a0 a1).map gatherumref04_low.rr.en := by
  unfold gatherumref04_low.t gatherumref04_low.f
  refine den_ite (b := (decide (a0 < a1))) rfl ?_ ?_
  exact den_ret rfl
  exact den_ret rfl
theorem gatherumref04_low.ok (F : FnE) (K : Nat) (ps r : List PD) (h : gatherumref04_low.app ps = some r) : Sy.den F K gatherumref04_low.t [] ps = some r := by
  obtain ⟨a, rfl, h2⟩ := app_ok (ra := gatherumref04_low.ra) (rr := gatherumref04_low.rr) (f := fun x => gatherumref04_low.f x.1 x.2) h
  rw [← h2]
  exact gatherumref04_low.den F K (a.1) (a.2)
noncomputable def l53 (K : Nat) : List (Nat × App) := (53, gatherumref04_low.app) :: l52 K
theorem gd53 (K : Nat) : Sy.Good Try.prog fns (mkF (l53 K)) := good_cons (K := K) gatherumref04_low.is rfl (by kernel_rfl) (by decide +kernel) envOk relOk relNp mix (gd52 K) (exts_ok rfl rfl rfl rfl rfl rfl rfl rfl rfl rfl rfl rfl) (gatherumref04_low.ok _ K)
/-! ### gatherumref04_Meet: function 32 -/
noncomputable def gatherumref04_Meet.body : Code := Try.f32.body.getD .skip
noncomputable def gatherumref04_Meet.sg : List S1 := [(.agg [.i, .i, .i, .i]), (.agg [.i, .i, .i, .i])]
noncomputable def gatherumref04_Meet.sh : Sh := (.one (.agg [.i, .i, .i, .i]))
noncomputable def gatherumref04_Meet.cf : Cfg := ⟨env, Try.f32.ntmps, Try.f32.results.toList, some gatherumref04_Meet.sh, rel, [], [], (exts Try.f32.ntmps)⟩
noncomputable def gatherumref04_Meet.t : Tree := (.ask 52 [(.ex (.va 0)), (.ex (.va 4))] [.i] (.ask 52 [(.ex (.va 1)), (.ex (.va 5))] [.i] (.ask 53 [(.ex (.va 2)), (.ex (.va 6))] [.i] (.ask 53 [(.ex (.va 3)), (.ex (.va 7))] [.i] (.ask 30 [(.ex (.va 8)), (.ex (.va 9)), (.ex (.va 10)), (.ex (.va 11))] [.b] (.ite (.va 12) (.ret [(.ex (.nu 0)), (.ex (.nu 0)), (.ex (.nu 0)), (.ex (.nu 0))]) (.ret [(.ex (.va 8)), (.ex (.va 9)), (.ex (.va 10)), (.ex (.va 11))])))))))
noncomputable def gatherumref04_Meet.ra : Rw (Int × Int × Int × Int × Int × Int × Int × Int) := (rwP rwI (rwP rwI (rwP rwI (rwP rwI (rwP rwI (rwP rwI (rwP rwI rwI)))))))
noncomputable def gatherumref04_Meet.rr : Rw (Int × Int × Int × Int) := (rwP rwI (rwP rwI (rwP rwI rwI)))
theorem gatherumref04_Meet.rr_en (r : Int × Int × Int × Int) : gatherumref04_Meet.rr.en r = [.int r.1, .int r.2.1, .int r.2.2.1, .int r.2.2.2] := rfl
noncomputable def gatherumref04_Meet.f (a0_0 : Int) (a0_1 : Int) (a0_2 : Int) (a0_3 : Int) (a1_0 : Int) (a1_1 : Int) (a1_2 : Int) (a1_3 : Int) : Option (Int × Int × Int × Int) := ((gatherumref04_high.f a0_0 a1_0).bind fun b0 => ((gatherumref04_high.f a0_1 a1_1).bind fun b1 => ((gatherumref04_low.f a0_2 a1_2).bind fun b2 => ((gatherumref04_low.f a0_3 a1_3).bind fun b3 => ((gatherumref04_Empty.f b0 b1 b2 b3).bind fun b4 => (if b4 = true then some (0, 0, 0, 0) else some (b0, b1, b2, b3)))))))
noncomputable def gatherumref04_Meet.app : App := fun ps => (gatherumref04_Meet.ra.de ps).bind fun x => (gatherumref04_Meet.f x.1 x.2.1 x.2.2.1 x.2.2.2.1 x.2.2.2.2.1 x.2.2.2.2.2.1 x.2.2.2.2.2.2.1 x.2.2.2.2.2.2.2).map gatherumref04_Meet.rr.en
theorem gatherumref04_Meet.ap (a0_0 : Int) (a0_1 : Int) (a0_2 : Int) (a0_3 : Int) (a1_0 : Int) (a1_1 : Int) (a1_2 : Int) (a1_3 : Int) : gatherumref04_Meet.app [.int a0_0, .int a0_1, .int a0_2, .int a0_3, .int a1_0, .int a1_1, .int a1_2, .int a1_3] = (gatherumref04_Meet.f a0_0 a0_1 a0_2 a0_3 a1_0 a1_1 a1_2 a1_3).map gatherumref04_Meet.rr.en := app_ap gatherumref04_Meet.ra gatherumref04_Meet.rr (fun x => gatherumref04_Meet.f x.1 x.2.1 x.2.2.1 x.2.2.2.1 x.2.2.2.2.1 x.2.2.2.2.2.1 x.2.2.2.2.2.2.1 x.2.2.2.2.2.2.2) (a0_0, a0_1, a0_2, a0_3, a1_0, a1_1, a1_2, a1_3)
theorem gatherumref04_Meet.is : FnIs Try.prog 32 (.init gatherumref04_Meet.sg) gatherumref04_Meet.t gatherumref04_Meet.cf := ⟨Try.f32, gatherumref04_Meet.body, 6000, Try.func32, by kernel_rfl, rfl, rfl, by decide +kernel, by kernel_rfl⟩
theorem gatherumref04_Meet.den (F : FnE) (K : Nat) (h30 : F 30 = gatherumref04_Empty.app) (h52 : F 52 = gatherumref04_high.app) (h53 : F 53 = gatherumref04_low.app) (a0_0 : Int) (a0_1 : Int) (a0_2 : Int) (a0_3 : Int) (a1_0 : Int) (a1_1 : Int) (a1_2 : Int) (a1_3 : Int) : Sy.den F K gatherumref04_Meet.t [] [.int a0_0, .int a0_1, .int a0_2, .int a0_3, .int a1_0, .int a1_1, .int a1_2, .int a1_3] = (gatherumref04_Meet.f a0_0 a0_1 a0_2 a0_3 a1_0 a1_1 a1_2 a1_3).map gatherumref04_Meet.rr.en := by
  unfold gatherumref04_Meet.t gatherumref04_Meet.f
  refine den_ask (ps := [.int a0_0, .int a1_0]) (rr := gatherumref04_high.rr) (G := gatherumref04_high.f a0_0 a1_0) (by rw [h52]; exact gatherumref04_high.ap a0_0 a1_0) rfl rfl fun b0 => ?_
  show Sy.den F K _ _ [.int a0_0, .int a0_1, .int a0_2, .int a0_3, .int a1_0, .int a1_1, .int a1_2, .int a1_3, .int b0] = _
  refine den_ask (ps := [.int a0_1, .int a1_1]) (rr := gatherumref04_high.rr) (G := gatherumref04_high.f a0_1 a1_1) (by rw [h52]; exact gatherumref04_high.ap a0_1 a1_1) rfl rfl fun b1 => ?_
  show Sy.den F K _ _ [.int a0_0, .int a0_1, .int a0_2, .int a0_3, .int a1_0, .int a1_1, .int a1_2, .int a1_3, .int b0, .int b1] = _
  refine den_ask (ps := [.int a0_2, .int a1_2]) (rr := gatherumref04_low.rr) (G := gatherumref04_low.f a0_2 a1_2) (by rw [h53]; exact gatherumref04_low.ap a0_2 a1_2) rfl rfl fun b2 => ?_
  show Sy.den F K _ _ [.int a0_0, .int a0_1, .int a0_2, .int a0_3, .int a1_0, .int a1_1, .int a1_2, .int a1_3, .int b0, .int b1, .int b2] = _
  refine den_ask (ps := [.int a0_3, .int a1_3]) (rr := gatherumref04_low.rr) (G := gatherumref04_low.f a0_3 a1_3) (by rw [h53]; exact gatherumref04_low.ap a0_3 a1_3) rfl rfl fun b3 => ?_
  show Sy.den F K _ _ [.int a0_0, .int a0_1, .int a0_2, .int a0_3, .int a1_0, .int a1_1, .int a1_2, .int a1_3, .int b0, .int b1, .int b2, .int b3] = _
  refine den_ask (ps := [.int b0, .int b1, .int b2, .int b3]) (rr := gatherumref04_Empty.rr) (G := gatherumref04_Empty.f b0 b1 b2 b3) (by rw [h30]; exact gatherumref04_Empty.ap b0 b1 b2 b3) rfl rfl fun b4 => ?_
  show Sy.den F K _ _ [.int a0_0, .int a0_1, .int a0_2, .int a0_3, .int a1_0, .int a1_1, .int a1_2, .int a1_3, .int b0, .int b1, .int b2, .int b3, .bool b4] = _
  refine den_ite (b := b4) rfl ?_ ?_
  exact den_ret rfl
  exact den_ret rfl
theorem gatherumref04_Meet.ok (F : FnE) (K : Nat) (h30 : F 30 = gatherumref04_Empty.app) (h52 : F 52 = gatherumref04_high.app) (h53 : F 53 = gatherumref04_low.app) (ps r : List PD) (h : gatherumref04_Meet.app ps = some r) : Sy.den F K gatherumref04_Meet.t [] ps = some r := by
  obtain ⟨a, rfl, h2⟩ := app_ok (ra := gatherumref04_Meet.ra) (rr := gatherumref04_Meet.rr) (f := fun x => gatherumref04_Meet.f x.1 x.2.1 x.2.2.1 x.2.2.2.1 x.2.2.2.2.1 x.2.2.2.2.2.1 x.2.2.2.2.2.2.1 x.2.2.2.2.2.2.2) h
  rw [← h2]
  exact gatherumref04_Meet.den F K h30 h52 h53 (a.1) (a.2.1) (a.2.2.1) (a.2.2.2.1) (a.2.2.2.2.1) (a.2.2.2.2.2.1) (a.2.2.2.2.2.2.1) (a.2.2.2.2.2.2.2)
noncomputable def l32 (K : Nat) : List (Nat × App) := (32, gatherumref04_Meet.app) :: l53 K
theorem gd32 (K : Nat) : Sy.Good Try.prog fns (mkF (l32 K)) := good_cons (K := K) gatherumref04_Meet.is rfl (by kernel_rfl) (by decide +kernel) envOk relOk relNp mix (gd53 K) (exts_ok rfl rfl rfl rfl rfl rfl rfl rfl rfl rfl rfl rfl) (gatherumref04_Meet.ok _ K rfl rfl rfl)
/-! ### box_Empty: function 45 -/
noncomputable def box_Empty.body : Code := Try.f45.body.getD .skip
noncomputable def box_Empty.sg : List S1 := [(.agg [.i, .i, .i, .i])]
noncomputable def box_Empty.sh : Sh := (.one (.one .b))
noncomputable def box_Empty.cf : Cfg := ⟨env, Try.f45.ntmps, Try.f45.results.toList, some box_Empty.sh, rel, [], [], (exts Try.f45.ntmps)⟩
noncomputable def box_Empty.t : Tree := (.ite (.le (.va 2) (.va 0)) (.ret [(.bo (.co true))]) (.ret [(.bo (.le (.va 3) (.va 1)))]))
noncomputable def box_Empty.ra : Rw (Int × Int × Int × Int) := (rwP rwI (rwP rwI (rwP rwI rwI)))
noncomputable def box_Empty.rr : Rw (Bool) := rwB
theorem box_Empty.rr_en (r : Bool) : box_Empty.rr.en r = [.bool r] := rfl
noncomputable def box_Empty.f (a0_0 : Int) (a0_1 : Int) (a0_2 : Int) (a0_3 : Int) : Option (Bool) := (if (decide (a0_2 ≤ a0_0)) = true then some true else some (decide (a0_3 ≤ a0_1)))
noncomputable def box_Empty.app : App := fun ps => (box_Empty.ra.de ps).bind fun x => (box_Empty.f x.1 x.2.1 x.2.2.1 x.2.2.2).map box_Empty.rr.en
theorem box_Empty.ap (a0_0 : Int) (a0_1 : Int) (a0_2 : Int) (a0_3 : Int) : box_Empty.app [.int a0_0, .int a0_1, .int a0_2, .int a0_3] = (box_Empty.f a0_0 a0_1 a0_2 a0_3).map box_Empty.rr.en := app_ap box_Empty.ra box_Empty.rr (fun x => box_Empty.f x.1 x.2.1 x.2.2.1 x.2.2.2) (a0_0, a0_1, a0_2, a0_3)
theorem box_Empty.is : FnIs Try.prog 45 (.init box_Empty.sg) box_Empty.t box_Empty.cf := ⟨Try.f45, box_Empty.body, 6000, Try.func45, by kernel_rfl, rfl, rfl, by decide +kernel, by kernel_rfl⟩
theorem box_Empty.den (F : FnE) (K : Nat) (a0_0 : Int) (a0_1 : Int) (a0_2 : Int) (a0_3 : Int) : Sy.den F K box_Empty.t [] [.int a0_0, .int a0_1, .int a0_2, .int a0_3] = (box_Empty.f a0_0 a0_1 a0_2 a0_3).map box_Empty.rr.en := by
  unfold box_Empty.t box_Empty.f
  refine den_ite (b := (decide (a0_2 ≤ a0_0))) rfl ?_ ?_
  exact den_ret rfl
  exact den_ret rfl
theorem box_Empty.ok (F : FnE) (K : Nat) (ps r : List PD) (h : box_Empty.app ps = some r) : Sy.den F K box_Empty.t [] ps = some r := by
  obtain ⟨a, rfl, h2⟩ := app_ok (ra := box_Empty.ra) (rr := box_Empty.rr) (f := fun x => box_Empty.f x.1 x.2.1 x.2.2.1 x.2.2.2) h
  rw [← h2]
  exact box_Empty.den F K (a.1) (a.2.1) (a.2.2.1) (a.2.2.2)
noncomputable def l45 (K : Nat) : List (Nat × App) := (45, box_Empty.app) :: l32 K
theorem gd45 (K : Nat) : Sy.Good Try.prog fns (mkF (l45 K)) := good_cons (K := K) box_Empty.is rfl (by kernel_rfl) (by decide +kernel) envOk relOk relNp mix (gd32 K) (exts_ok rfl rfl rfl rfl rfl rfl rfl rfl rfl rfl rfl rfl) (box_Empty.ok _ K)
/-! ### cover_columns: function 57 -/
noncomputable def cover_columns.body : Code := Try.f57.body.getD .skip
noncomputable def cover_columns.sg : List S1 := [(.one (.l 37 4))]
noncomputable def cover_columns.sh : Sh := (.one (.one (.l 3 1)))
noncomputable def cover_columns.cf : Cfg := ⟨env, Try.f57.ntmps, Try.f57.results.toList, some cover_columns.sh, rel, [3], [((3, 322, 1), ⟨[], [], [(8, [(0, .i)]), (3, [(0, (.own 3 1))])], []⟩)], (exts Try.f57.ntmps)⟩
noncomputable def cover_columns.b0 : Tree := (.ite (.lt (.va 1) (.lens [0] 0)) (.ite (.le (.nu 0) (.va 1)) (.get 0 (.va 1) [.i, .i, .i, .i] (.ite (.le (.lens [2] 2) (.nu cap17592186044416)) (.fix [(.va 2), (.row [(.ex (.va 3))]), (.row [(.ex (.va 5))])] 1 (.back 0 1 [(.ex (.add (.va 1) (.nu 1))), (.li 7)])) .bad)) .bad) (.ask 1000003 [(.li 2)] [(.l 3 1)] (.ask 1000006 [(.li 3)] [(.l 3 1)] (.fix [(.va 4)] 1 (.ret [(.li 5)])))))
noncomputable def cover_columns.t : Tree := (.loop [(.ex (.nu 0)), (.nl 1)] [.i, (.l 3 1)] cover_columns.b0)
noncomputable def cover_columns.ra : Rw (List (Int × Int × Int × Int)) := (rwL 37 4 rw_iiii rfl)
noncomputable def cover_columns.rr : Rw (List (Int)) := (rwL 3 1 rw_i rfl)
theorem cover_columns.rr_en (r : List (Int)) : cover_columns.rr.en r = [.lst 1 (r.map rw_i.en)] := rfl
noncomputable def cover_columns.l0 (p0 : List (Int × Int × Int × Int)) : Nat → (Int) → (List (Int)) → Option (List (Int))
  | 0, _, _ => none
  | k + 1, x0, x1 => (if (decide (x0 < ((p0.length : Nat) : Int))) = true then (if (decide (0 ≤ x0)) = true then ((p0[(x0 : Int).toNat]?).bind fun b0 => (if (decide (((x1.length + 2 : Nat) : Int) ≤ cap17592186044416)) = true then (cover_columns.l0 p0 k (wrap64 (x0 + 1)) (x1 ++ (b0.1 :: [b0.2.2.1]))) else none)) else none) else ((xsti x1).bind fun b0 => ((Hv.xco b0).bind fun b1 => some b1)))
noncomputable def cover_columns.f (K : Nat) (a0 : List (Int × Int × Int × Int)) : Option (List (Int)) := (cover_columns.l0 a0 K 0 [])
noncomputable def cover_columns.app (K : Nat) : App := fun ps => (cover_columns.ra.de ps).bind fun x => (cover_columns.f K x).map cover_columns.rr.en
theorem cover_columns.ap (K : Nat) (a0 : List (Int × Int × Int × Int)) : cover_columns.app K [.lst 4 (a0.map rw_iiii.en)] = (cover_columns.f K a0).map cover_columns.rr.en := app_ap cover_columns.ra cover_columns.rr (fun x => cover_columns.f K x) (a0)
theorem cover_columns.is : FnIs Try.prog 57 (.init cover_columns.sg) cover_columns.t cover_columns.cf := ⟨Try.f57, cover_columns.body, 6000, Try.func57, by kernel_rfl, rfl, rfl, by decide +kernel, by kernel_rfl⟩
theorem cover_columns.l0_den (F : FnE) (K : Nat) (h1000003 : F 1000003 = stiApp) (h1000006 : F 1000006 = Hv.coApp) (Js : List (List PD → Option (List PD))) (p0 : List (Int × Int × Int × Int)) : ∀ (k : Nat) (x0 : Int) (x1 : List (Int)), iterF (fun J ρ' => den F K cover_columns.b0 (J :: Js) ρ') k [.lst 4 (p0.map rw_iiii.en), .int x0, .lst 1 (x1.map rw_i.en)] = (cover_columns.l0 p0 k x0 x1).map cover_columns.rr.en := by
  intro k
  induction k with
  | zero => intros; rfl
  | succ k ih =>
    intro x0 x1
    show Sy.den F K cover_columns.b0 (iterF (fun J ρ' => Sy.den F K cover_columns.b0 (J :: Js) ρ') k :: Js) [.lst 4 (p0.map rw_iiii.en), .int x0, .lst 1 (x1.map rw_i.en)] = _
    revert ih
    generalize iterF (fun J ρ' => Sy.den F K cover_columns.b0 (J :: Js) ρ') k = J0
    intro ih
    rw [cover_columns.l0]
    show Sy.den F K cover_columns.b0 _ [.lst 4 (p0.map rw_iiii.en), .int x0, .lst 1 (x1.map rw_i.en)] = _
    unfold cover_columns.b0
    refine den_ite (b := (decide (x0 < ((p0.length : Nat) : Int)))) (by simp only [pds, PC.pd, E.ev, B.ev, SE.ev, LE.rows, lensEv, kSl_eq, kPt_eq, ov_prop, List.getElem?_cons_zero, List.getElem?_cons_succ, List.length_map, Nat.add_zero, Nat.zero_add, Option.bind_some, Option.map_some, if_true, Subtype.eta, mxi, mni, List.map_append, List.map_cons, List.map_nil, List.cons_append, List.nil_append, List.append_nil]) ?_ ?_
    refine den_ite (b := (decide (0 ≤ x0))) rfl ?_ ?_
    refine den_get (L := p0) (rw := rw_iiii) rfl rfl rfl fun b0 => ?_
    show Sy.den F K _ _ [.lst 4 (p0.map rw_iiii.en), .int x0, .lst 1 (x1.map rw_i.en), .int b0.1, .int b0.2.1, .int b0.2.2.1, .int b0.2.2.2] = _
    refine den_ite (b := (decide (((x1.length + 2 : Nat) : Int) ≤ cap17592186044416))) (by simp only [pds, PC.pd, E.ev, B.ev, SE.ev, LE.rows, lensEv, kSl_eq, kPt_eq, ov_prop, List.getElem?_cons_zero, List.getElem?_cons_succ, List.length_map, Nat.add_zero, Nat.zero_add, Option.bind_some, Option.map_some, if_true, Subtype.eta, mxi, mni, List.map_append, List.map_cons, List.map_nil, List.cons_append, List.nil_append, List.append_nil]) ?_ ?_
    refine den_fix (rows := List.map rw_i.en (x1 ++ (b0.1 :: [b0.2.2.1]))) (by simp only [pds, PC.pd, E.ev, B.ev, SE.ev, LE.rows, lensEv, kSl_eq, kPt_eq, ov_prop, List.getElem?_cons_zero, List.getElem?_cons_succ, List.length_map, Nat.add_zero, Nat.zero_add, Option.bind_some, Option.map_some, if_true, Subtype.eta, mxi, mni, List.map_append, List.map_cons, List.map_nil, List.cons_append, List.nil_append, List.append_nil, rw_i_en]) ?_
    show Sy.den F K _ _ [.lst 4 (p0.map rw_iiii.en), .int x0, .lst 1 (x1.map rw_i.en), .int b0.1, .int b0.2.1, .int b0.2.2.1, .int b0.2.2.2, .lst 1 ((x1 ++ (b0.1 :: [b0.2.2.1])).map rw_i.en)] = _
    refine den_back (vs := [.int (wrap64 (x0 + 1)), .lst 1 ((x1 ++ (b0.1 :: [b0.2.2.1])).map rw_i.en)]) (by simp only [pds, PC.pd, E.ev, B.ev, SE.ev, LE.rows, lensEv, kSl_eq, kPt_eq, ov_prop, List.getElem?_cons_zero, List.getElem?_cons_succ, List.length_map, Nat.add_zero, Nat.zero_add, Option.bind_some, Option.map_some, if_true, Subtype.eta, mxi, mni, List.map_append, List.map_cons, List.map_nil, List.cons_append, List.nil_append, List.append_nil]) rfl ?_
    exact ih (wrap64 (x0 + 1)) (x1 ++ (b0.1 :: [b0.2.2.1]))
    exact den_bad _ _ _ _ _
    exact den_bad _ _ _ _ _
    refine den_ask (ps := [.lst 1 (x1.map rw_i.en)]) (rr := rwL 3 1 rw_i rfl) (G := xsti x1) (by rw [h1000003]; exact xsti_ap 3 1 x1) (by simp only [pds, PC.pd, E.ev, B.ev, SE.ev, LE.rows, lensEv, kSl_eq, kPt_eq, ov_prop, List.getElem?_cons_zero, List.getElem?_cons_succ, List.length_map, Nat.add_zero, Nat.zero_add, Option.bind_some, Option.map_some, if_true, Subtype.eta, mxi, mni, List.map_append, List.map_cons, List.map_nil, List.cons_append, List.nil_append, List.append_nil]) rfl fun b0 => ?_
    show Sy.den F K _ _ [.lst 4 (p0.map rw_iiii.en), .int x0, .lst 1 (x1.map rw_i.en), .lst 1 (b0.map rw_i.en)] = _
    refine den_ask (ps := [.lst 1 (b0.map rw_i.en)]) (rr := rwL 3 1 rw_i rfl) (G := Hv.xco b0) (by rw [h1000006]; exact Hv.xco_ap 3 1 b0) (by simp only [pds, PC.pd, E.ev, B.ev, SE.ev, LE.rows, lensEv, kSl_eq, kPt_eq, ov_prop, List.getElem?_cons_zero, List.getElem?_cons_succ, List.length_map, Nat.add_zero, Nat.zero_add, Option.bind_some, Option.map_some, if_true, Subtype.eta, mxi, mni, List.map_append, List.map_cons, List.map_nil, List.cons_append, List.nil_append, List.append_nil]) rfl fun b1 => ?_
    show Sy.den F K _ _ [.lst 4 (p0.map rw_iiii.en), .int x0, .lst 1 (x1.map rw_i.en), .lst 1 (b0.map rw_i.en), .lst 1 (b1.map rw_i.en)] = _
    refine den_fix (rows := List.map rw_i.en b1) (by simp only [pds, PC.pd, E.ev, B.ev, SE.ev, LE.rows, lensEv, kSl_eq, kPt_eq, ov_prop, List.getElem?_cons_zero, List.getElem?_cons_succ, List.length_map, Nat.add_zero, Nat.zero_add, Option.bind_some, Option.map_some, if_true, Subtype.eta, mxi, mni, List.map_append, List.map_cons, List.map_nil, List.cons_append, List.nil_append, List.append_nil, rw_i_en]) ?_
    show Sy.den F K _ _ [.lst 4 (p0.map rw_iiii.en), .int x0, .lst 1 (x1.map rw_i.en), .lst 1 (b0.map rw_i.en), .lst 1 (b1.map rw_i.en), .lst 1 (b1.map rw_i.en)] = _
    exact den_ret (by simp only [pds, PC.pd, E.ev, B.ev, SE.ev, LE.rows, lensEv, kSl_eq, kPt_eq, ov_prop, List.getElem?_cons_zero, List.getElem?_cons_succ, List.length_map, Nat.add_zero, Nat.zero_add, Option.bind_some, Option.map_some, if_true, Subtype.eta, mxi, mni, List.map_append, List.map_cons, List.map_nil, List.cons_append, List.nil_append, List.append_nil, cover_columns.rr_en])
theorem cover_columns.den (F : FnE) (K : Nat) (h1000003 : F 1000003 = stiApp) (h1000006 : F 1000006 = Hv.coApp) (a0 : List (Int × Int × Int × Int)) : Sy.den F K cover_columns.t [] [.lst 4 (a0.map rw_iiii.en)] = (cover_columns.f K a0).map cover_columns.rr.en := by
  unfold cover_columns.t cover_columns.f
  refine den_loop (vs := [.int 0, .lst 1 []]) (by simp only [pds, PC.pd, E.ev, B.ev, SE.ev, LE.rows, lensEv, kSl_eq, kPt_eq, ov_prop, List.getElem?_cons_zero, List.getElem?_cons_succ, List.length_map, Nat.add_zero, Nat.zero_add, Option.bind_some, Option.map_some, if_true, Subtype.eta, mxi, mni, List.map_append, List.map_cons, List.map_nil, List.cons_append, List.nil_append, List.append_nil]) ?_
  exact cover_columns.l0_den F K h1000003 h1000006 [] a0 K 0 []
theorem cover_columns.ok (F : FnE) (K : Nat) (h1000003 : F 1000003 = stiApp) (h1000006 : F 1000006 = Hv.coApp) (ps r : List PD) (h : cover_columns.app K ps = some r) : Sy.den F K cover_columns.t [] ps = some r := by
  obtain ⟨a, rfl, h2⟩ := app_ok (ra := cover_columns.ra) (rr := cover_columns.rr) (f := fun x => cover_columns.f K x) h
  rw [← h2]
  exact cover_columns.den F K h1000003 h1000006 a
noncomputable def l57 (K : Nat) : List (Nat × App) := (57, cover_columns.app K) :: l45 K
theorem gd57 (K : Nat) : Sy.Good Try.prog fns (mkF (l57 K)) := good_cons (K := K) cover_columns.is rfl (by kernel_rfl) (by decide +kernel) envOk relOk relNp mix (gd45 K) (exts_ok rfl rfl rfl rfl rfl rfl rfl rfl rfl rfl rfl rfl) (cover_columns.ok _ K rfl rfl)
/-! ### cover_heights_1: function 69 -/
noncomputable def cover_heights_1.body : Code := Try.f69.body.getD .skip
noncomputable def cover_heights_1.sg : List S1 := [(.agg [.i, .i]), (.agg [.i, .i])]
noncomputable def cover_heights_1.sh : Sh := (.one (.one .i))
noncomputable def cover_heights_1.cf : Cfg := ⟨env, Try.f69.ntmps, Try.f69.results.toList, some cover_heights_1.sh, rel, [], [], (exts Try.f69.ntmps)⟩
noncomputable def cover_heights_1.t : Tree := (.ite (.lt (.va 0) (.va 2)) (.ret [(.ex (.nu (-1)))]) (.ite (.lt (.va 2) (.va 0)) (.ret [(.ex (.nu 1))]) (.ret [(.ex (.nu 0))])))
noncomputable def cover_heights_1.ra : Rw (Int × Int × Int × Int) := (rwP rwI (rwP rwI (rwP rwI rwI)))
noncomputable def cover_heights_1.rr : Rw (Int) := rwI
theorem cover_heights_1.rr_en (r : Int) : cover_heights_1.rr.en r = [.int r] := rfl
noncomputable def cover_heights_1.f (a0_0 : Int) (a0_1 : Int) (a1_0 : Int) (a1_1 : Int) : Option (Int) := (if (decide (a0_0 < a1_0)) = true then some (-1) else (if (decide (a1_0 < a0_0)) = true then some 1 else some 0))
noncomputable def cover_heights_1.app : App := fun ps => (cover_heights_1.ra.de ps).bind fun x => (cover_heights_1.f x.1 x.2.1 x.2.2.1 x.2.2.2).map cover_heights_1.rr.en
theorem cover_heights_1.ap (a0_0 : Int) (a0_1 : Int) (a1_0 : Int) (a1_1 : Int) : cover_heights_1.app [.int a0_0, .int a0_1, .int a1_0, .int a1_1] = (cover_heights_1.f a0_0 a0_1 a1_0 a1_1).map cover_heights_1.rr.en := app_ap cover_heights_1.ra cover_heights_1.rr (fun x => cover_heights_1.f x.1 x.2.1 x.2.2.1 x.2.2.2) (a0_0, a0_1, a1_0, a1_1)
theorem cover_heights_1.is : FnIs Try.prog 69 (.init cover_heights_1.sg) cover_heights_1.t cover_heights_1.cf := ⟨Try.f69, cover_heights_1.body, 6000, Try.func69, by kernel_rfl, rfl, rfl, by decide +kernel, by kernel_rfl⟩
theorem cover_heights_1.den (F : FnE) (K : Nat) (a0_0 : Int) (a0_1 : Int) (a1_0 : Int) (a1_1 : Int) : Sy.den F K cover_heights_1.t [] [.int a0_0, .int a0_1, .int a1_0, .int a1_1] = (cover_heights_1.f a0_0 a0_1 a1_0 a1_1).map cover_heights_1.rr.en := by
  unfold cover_heights_1.t cover_heights_1.f
  refine den_ite (b := (decide (a0_0 < a1_0))) rfl ?_ ?_
  exact den_ret rfl
  refine den_ite (b := (decide (a1_0 < a0_0))) rfl ?_ ?_
  exact den_ret rfl
  exact den_ret rfl
theorem cover_heights_1.ok (F : FnE) (K : Nat) (ps r : List PD) (h : cover_heights_1.app ps = some r) : Sy.den F K cover_heights_1.t [] ps = some r := by
  obtain ⟨a, rfl, h2⟩ := app_ok (ra := cover_heights_1.ra) (rr := cover_heights_1.rr) (f := fun x => cover_heights_1.f x.1 x.2.1 x.2.2.1 x.2.2.2) h
  rw [← h2]
  exact cover_heights_1.den F K (a.1) (a.2.1) (a.2.2.1) (a.2.2.2)
noncomputable def l69 (K : Nat) : List (Nat × App) := (69, cover_heights_1.app) :: l57 K
theorem gd69 (K : Nat) : Sy.Good Try.prog fns (mkF (l69 K)) := good_cons (K := K) cover_heights_1.is rfl (by kernel_rfl) (by decide +kernel) envOk relOk relNp mix (gd57 K) (exts_ok rfl rfl rfl rfl rfl rfl rfl rfl rfl rfl rfl rfl) (cover_heights_1.ok _ K)
/-! ### cover_heights: function 58 -/
noncomputable def cover_heights.body : Code := Try.f58.body.getD .skip
noncomputable def cover_heights.sg : List S1 := [(.one .i), (.one (.l 37 4))]
noncomputable def cover_heights.sh : Sh := (.one (.one .i))
noncomputable def cover_heights.cf : Cfg := ⟨env, Try.f58.ntmps, Try.f58.results.toList, some cover_heights.sh, rel, [3, 10], [((3, 323, 2), ⟨[], [], [(14, [(0, .i)]), (5, [(0, (.own 99 2))])], []⟩), ((10, 773, 5), ⟨[], [], [(32, [(0, .i)]), (9, [(0, .i)]), (8, [(0, .i)])], []⟩)], (exts Try.f58.ntmps)⟩
noncomputable def cover_heights.b1 : Tree := (.ite (.lt (.va 5) (.lens [4] 0)) (.ite (.le (.nu 0) (.va 5)) (.get 4 (.va 5) [.i, .i] (.ite (.le (.va 0) (.va 6)) (.ite (.le (.nu 0) (.sub (.va 5) (.nu 1))) (.ite (.lt (.sub (.va 5) (.nu 1)) (.lens [4] 0)) (.get 4 (.sub (.va 5) (.nu 1)) [.i, .i] (.back 0 5 [(.ex (.add (.va 5) (.nu 1))), (.ex (.add (.va 6) (.va 9))), (.ex (.add (.va 7) (.sub (.va 8) (.va 10))))])) .bad) .bad) (.back 0 5 [(.ex (.add (.va 5) (.nu 1))), (.ex (.add (.va 6) (.va 9))), (.ex (.va 7))]))) .bad) (.ret [(.ex (.va 7))]))
noncomputable def cover_heights.b0 : Tree := (.ite (.lt (.va 2) (.lens [1] 0)) (.ite (.le (.nu 0) (.va 2)) (.get 1 (.va 2) [.i, .i, .i, .i] (.ite (.le (.lens [3] 2) (.nu cap8796093022208)) (.fix [(.va 3), (.row [(.ex (.va 5)), (.ex (.nu 1))]), (.row [(.ex (.va 7)), (.ex (.nu (-1)))])] 2 (.back 0 2 [(.ex (.add (.va 2) (.nu 1))), (.li 8)])) .bad)) .bad) (.ask 1000005 [(.li 3)] [(.l 99 2)] (.loop [(.ex (.nu 0)), (.ex (.nu 0)), (.ex (.nu 0))] [.i, .i, .i] cover_heights.b1)))
noncomputable def cover_heights.t : Tree := (.loop [(.ex (.nu 0)), (.nl 2)] [.i, (.l 99 2)] cover_heights.b0)
noncomputable def cover_heights.ra : Rw (Int × (List (Int × Int × Int × Int))) := (rwP rwI (rwL 37 4 rw_iiii rfl))
noncomputable def cover_heights.rr : Rw (Int) := rwI
theorem cover_heights.rr_en (r : Int) : cover_heights.rr.en r = [.int r] := rfl
noncomputable def cover_heights.l1 (p0 : Int) (p4 : List (Int × Int)) : Nat → (Int) → (Int) → (Int) → Option (Int)
  | 0, _, _, _ => none
  | k + 1, x0, x1, x2 => (if (decide (x0 < ((p4.length : Nat) : Int))) = true then (if (decide (0 ≤ x0)) = true then ((p4[(x0 : Int).toNat]?).bind fun b0 => (if (decide (p0 ≤ x1)) = true then (if (decide (0 ≤ (wrap64 (x0 - 1)))) = true then (if (decide ((wrap64 (x0 - 1)) < ((p4.length : Nat) : Int))) = true then ((p4[((wrap64 (x0 - 1)) : Int).toNat]?).bind fun b1 => (cover_heights.l1 p0 p4 k (wrap64 (x0 + 1)) (wrap64 (x1 + b0.2)) (wrap64 (x2 + (wrap64 (b0.1 - b1.1)))))) else none) else none) else (cover_heights.l1 p0 p4 k (wrap64 (x0 + 1)) (wrap64 (x1 + b0.2)) x2))) else none) else some x2)
noncomputable def cover_heights.l0 (K : Nat) (p0 : Int) (p1 : List (Int × Int × Int × Int)) : Nat → (Int) → (List (Int × Int)) → Option (Int)
  | 0, _, _ => none
  | k + 1, x0, x1 => (if (decide (x0 < ((p1.length : Nat) : Int))) = true then (if (decide (0 ≤ x0)) = true then ((p1[(x0 : Int).toNat]?).bind fun b0 => (if (decide (((x1.length + 2 : Nat) : Int) ≤ cap8796093022208)) = true then (cover_heights.l0 K p0 p1 k (wrap64 (x0 + 1)) (x1 ++ ((b0.2.1, 1) :: [(b0.2.2.2, (-1))]))) else none)) else none) else ((Hv.xsf x1).bind fun b0 => (cover_heights.l1 p0 b0 K 0 0 0)))
noncomputable def cover_heights.f (K : Nat) (a0 : Int) (a1 : List (Int × Int × Int × Int)) : Option (Int) := (cover_heights.l0 K a0 a1 K 0 [])
noncomputable def cover_heights.app (K : Nat) : App := fun ps => (cover_heights.ra.de ps).bind fun x => (cover_heights.f K x.1 x.2).map cover_heights.rr.en
theorem cover_heights.ap (K : Nat) (a0 : Int) (a1 : List (Int × Int × Int × Int)) : cover_heights.app K [.int a0, .lst 4 (a1.map rw_iiii.en)] = (cover_heights.f K a0 a1).map cover_heights.rr.en := app_ap cover_heights.ra cover_heights.rr (fun x => cover_heights.f K x.1 x.2) (a0, a1)
theorem cover_heights.is : FnIs Try.prog 58 (.init cover_heights.sg) cover_heights.t cover_heights.cf := ⟨Try.f58, cover_heights.body, 6000, Try.func58, by kernel_rfl, rfl, rfl, by decide +kernel, by kernel_rfl⟩
theorem cover_heights.l1_den (F : FnE) (K : Nat) (h1000005 : F 1000005 = Hv.sfApp) (Js : List (List PD → Option (List PD))) (J0 : List PD → Option (List PD)) (j0 : (Int) → (List (Int × Int)) → Option (Int)) (p0 : Int) (p1 : List (Int × Int × Int × Int)) (p2 : Int) (p3 : List (Int × Int)) (p4 : List (Int × Int)) (hJ0 : ∀ (y0 : Int) (y1 : List (Int × Int)), J0 [.int p0, .lst 4 (p1.map rw_iiii.en), .int y0, .lst 2 (y1.map rw_ii.en)] = (j0 y0 y1).map cover_heights.rr.en) : ∀ (k : Nat) (x0 : Int) (x1 : Int) (x2 : Int), iterF (fun J ρ' => den F K cover_heights.b1 (J :: J0 :: Js) ρ') k [.int p0, .lst 4 (p1.map rw_iiii.en), .int p2, .lst 2 (p3.map rw_ii.en), .lst 2 (p4.map rw_ii.en), .int x0, .int x1, .int x2] = (cover_heights.l1 p0 p4 k x0 x1 x2).map cover_heights.rr.en := by
  intro k
  induction k with
  | zero => intros; rfl
  | succ k ih =>
    intro x0 x1 x2
    show Sy.den F K cover_heights.b1 (iterF (fun J ρ' => Sy.den F K cover_heights.b1 (J :: J0 :: Js) ρ') k :: J0 :: Js) [.int p0, .lst 4 (p1.map rw_iiii.en), .int p2, .lst 2 (p3.map rw_ii.en), .lst 2 (p4.map rw_ii.en), .int x0, .int x1, .int x2] = _
    revert ih
    generalize iterF (fun J ρ' => Sy.den F K cover_heights.b1 (J :: J0 :: Js) ρ') k = J1
    intro ih
    rw [cover_heights.l1]
    show Sy.den F K cover_heights.b1 _ [.int p0, .lst 4 (p1.map rw_iiii.en), .int p2, .lst 2 (p3.map rw_ii.en), .lst 2 (p4.map rw_ii.en), .int x0, .int x1, .int x2] = _
    unfold cover_heights.b1
    refine den_ite (b := (decide (x0 < ((p4.length : Nat) : Int)))) (by simp only [pds, PC.pd, E.ev, B.ev, SE.ev, LE.rows, lensEv, kSl_eq, kPt_eq, ov_prop, List.getElem?_cons_zero, List.getElem?_cons_succ, List.length_map, Nat.add_zero, Nat.zero_add, Option.bind_some, Option.map_some, if_true, Subtype.eta, mxi, mni, List.map_append, List.map_cons, List.map_nil, List.cons_append, List.nil_append, List.append_nil]) ?_ ?_
    refine den_ite (b := (decide (0 ≤ x0))) rfl ?_ ?_
    refine den_get (L := p4) (rw := rw_ii) rfl rfl rfl fun b0 => ?_
    show Sy.den F K _ _ [.int p0, .lst 4 (p1.map rw_iiii.en), .int p2, .lst 2 (p3.map rw_ii.en), .lst 2 (p4.map rw_ii.en), .int x0, .int x1, .int x2, .int b0.1, .int b0.2] = _
    refine den_ite (b := (decide (p0 ≤ x1))) rfl ?_ ?_
    refine den_ite (b := (decide (0 ≤ (wrap64 (x0 - 1))))) rfl ?_ ?_
    refine den_ite (b := (decide ((wrap64 (x0 - 1)) < ((p4.length : Nat) : Int)))) (by simp only [pds, PC.pd, E.ev, B.ev, SE.ev, LE.rows, lensEv, kSl_eq, kPt_eq, ov_prop, List.getElem?_cons_zero, List.getElem?_cons_succ, List.length_map, Nat.add_zero, Nat.zero_add, Option.bind_some, Option.map_some, if_true, Subtype.eta, mxi, mni, List.map_append, List.map_cons, List.map_nil, List.cons_append, List.nil_append, List.append_nil]) ?_ ?_
    refine den_get (L := p4) (rw := rw_ii) rfl rfl rfl fun b1 => ?_
    show Sy.den F K _ _ [.int p0, .lst 4 (p1.map rw_iiii.en), .int p2, .lst 2 (p3.map rw_ii.en), .lst 2 (p4.map rw_ii.en), .int x0, .int x1, .int x2, .int b0.1, .int b0.2, .int b1.1, .int b1.2] = _
    refine den_back (vs := [.int (wrap64 (x0 + 1)), .int (wrap64 (x1 + b0.2)), .int (wrap64 (x2 + (wrap64 (b0.1 - b1.1))))]) rfl rfl ?_
    exact ih (wrap64 (x0 + 1)) (wrap64 (x1 + b0.2)) (wrap64 (x2 + (wrap64 (b0.1 - b1.1))))
    exact den_bad _ _ _ _ _
    exact den_bad _ _ _ _ _
    refine den_back (vs := [.int (wrap64 (x0 + 1)), .int (wrap64 (x1 + b0.2)), .int x2]) rfl rfl ?_
    exact ih (wrap64 (x0 + 1)) (wrap64 (x1 + b0.2)) x2
    exact den_bad _ _ _ _ _
    exact den_ret rfl
theorem cover_heights.l0_den (F : FnE) (K : Nat) (h1000005 : F 1000005 = Hv.sfApp) (Js : List (List PD → Option (List PD))) (p0 : Int) (p1 : List (Int × Int × Int × Int)) : ∀ (k : Nat) (x0 : Int) (x1 : List (Int × Int)), iterF (fun J ρ' => den F K cover_heights.b0 (J :: Js) ρ') k [.int p0, .lst 4 (p1.map rw_iiii.en), .int x0, .lst 2 (x1.map rw_ii.en)] = (cover_heights.l0 K p0 p1 k x0 x1).map cover_heights.rr.en := by
  intro k
  induction k with
  | zero => intros; rfl
  | succ k ih =>
    intro x0 x1
    show Sy.den F K cover_heights.b0 (iterF (fun J ρ' => Sy.den F K cover_heights.b0 (J :: Js) ρ') k :: Js) [.int p0, .lst 4 (p1.map rw_iiii.en), .int x0, .lst 2 (x1.map rw_ii.en)] = _
    revert ih
    generalize iterF (fun J ρ' => Sy.den F K cover_heights.b0 (J :: Js) ρ') k = J0
    intro ih
    rw [cover_heights.l0]
    show Sy.den F K cover_heights.b0 _ [.int p0, .lst 4 (p1.map rw_iiii.en), .int x0, .lst 2 (x1.map rw_ii.en)] = _
    unfold cover_heights.b0
    refine den_ite (b := (decide (x0 < ((p1.length : Nat) : Int)))) (by simp only [pds, PC.pd, E.ev, B.ev, SE.ev, LE.rows, lensEv, kSl_eq, kPt_eq, ov_prop, List.getElem?_cons_zero, List.getElem?_cons_succ, List.length_map, Nat.add_zero, Nat.zero_add, Option.bind_some, Option.map_some, if_true, Subtype.eta, mxi, mni, List.map_append, List.map_cons, List.map_nil, List.cons_append, List.nil_append, List.append_nil]) ?_ ?_
    refine den_ite (b := (decide (0 ≤ x0))) rfl ?_ ?_
    refine den_get (L := p1) (rw := rw_iiii) rfl rfl rfl fun b0 => ?_
    show Sy.den F K _ _ [.int p0, .lst 4 (p1.map rw_iiii.en), .int x0, .lst 2 (x1.map rw_ii.en), .int b0.1, .int b0.2.1, .int b0.2.2.1, .int b0.2.2.2] = _
    refine den_ite (b := (decide (((x1.length + 2 : Nat) : Int) ≤ cap8796093022208))) (by simp only [pds, PC.pd, E.ev, B.ev, SE.ev, LE.rows, lensEv, kSl_eq, kPt_eq, ov_prop, List.getElem?_cons_zero, List.getElem?_cons_succ, List.length_map, Nat.add_zero, Nat.zero_add, Option.bind_some, Option.map_some, if_true, Subtype.eta, mxi, mni, List.map_append, List.map_cons, List.map_nil, List.cons_append, List.nil_append, List.append_nil]) ?_ ?_
    refine den_fix (rows := List.map rw_ii.en (x1 ++ ((b0.2.1, 1) :: [(b0.2.2.2, (-1))]))) (by simp only [pds, PC.pd, E.ev, B.ev, SE.ev, LE.rows, lensEv, kSl_eq, kPt_eq, ov_prop, List.getElem?_cons_zero, List.getElem?_cons_succ, List.length_map, Nat.add_zero, Nat.zero_add, Option.bind_some, Option.map_some, if_true, Subtype.eta, mxi, mni, List.map_append, List.map_cons, List.map_nil, List.cons_append, List.nil_append, List.append_nil, rw_ii_en]) ?_
    show Sy.den F K _ _ [.int p0, .lst 4 (p1.map rw_iiii.en), .int x0, .lst 2 (x1.map rw_ii.en), .int b0.1, .int b0.2.1, .int b0.2.2.1, .int b0.2.2.2, .lst 2 ((x1 ++ ((b0.2.1, 1) :: [(b0.2.2.2, (-1))])).map rw_ii.en)] = _
    refine den_back (vs := [.int (wrap64 (x0 + 1)), .lst 2 ((x1 ++ ((b0.2.1, 1) :: [(b0.2.2.2, (-1))])).map rw_ii.en)]) (by simp only [pds, PC.pd, E.ev, B.ev, SE.ev, LE.rows, lensEv, kSl_eq, kPt_eq, ov_prop, List.getElem?_cons_zero, List.getElem?_cons_succ, List.length_map, Nat.add_zero, Nat.zero_add, Option.bind_some, Option.map_some, if_true, Subtype.eta, mxi, mni, List.map_append, List.map_cons, List.map_nil, List.cons_append, List.nil_append, List.append_nil]) rfl ?_
    exact ih (wrap64 (x0 + 1)) (x1 ++ ((b0.2.1, 1) :: [(b0.2.2.2, (-1))]))
    exact den_bad _ _ _ _ _
    exact den_bad _ _ _ _ _
    refine den_ask (ps := [.lst 2 (x1.map rw_ii.en)]) (rr := rwL 99 2 rw_ii rfl) (G := Hv.xsf x1) (by rw [h1000005]; exact Hv.xsf_ap 99 2 x1) (by simp only [pds, PC.pd, E.ev, B.ev, SE.ev, LE.rows, lensEv, kSl_eq, kPt_eq, ov_prop, List.getElem?_cons_zero, List.getElem?_cons_succ, List.length_map, Nat.add_zero, Nat.zero_add, Option.bind_some, Option.map_some, if_true, Subtype.eta, mxi, mni, List.map_append, List.map_cons, List.map_nil, List.cons_append, List.nil_append, List.append_nil]) rfl fun b0 => ?_
    show Sy.den F K _ _ [.int p0, .lst 4 (p1.map rw_iiii.en), .int x0, .lst 2 (x1.map rw_ii.en), .lst 2 (b0.map rw_ii.en)] = _
    refine den_loop (vs := [.int 0, .int 0, .int 0]) rfl ?_
    exact cover_heights.l1_den F K h1000005 Js J0 (fun y0 y1 => cover_heights.l0 K p0 p1 k y0 y1) p0 p1 x0 x1 b0 ih K 0 0 0
theorem cover_heights.den (F : FnE) (K : Nat) (h1000005 : F 1000005 = Hv.sfApp) (a0 : Int) (a1 : List (Int × Int × Int × Int)) : Sy.den F K cover_heights.t [] [.int a0, .lst 4 (a1.map rw_iiii.en)] = (cover_heights.f K a0 a1).map cover_heights.rr.en := by
  unfold cover_heights.t cover_heights.f
  refine den_loop (vs := [.int 0, .lst 2 []]) (by simp only [pds, PC.pd, E.ev, B.ev, SE.ev, LE.rows, lensEv, kSl_eq, kPt_eq, ov_prop, List.getElem?_cons_zero, List.getElem?_cons_succ, List.length_map, Nat.add_zero, Nat.zero_add, Option.bind_some, Option.map_some, if_true, Subtype.eta, mxi, mni, List.map_append, List.map_cons, List.map_nil, List.cons_append, List.nil_append, List.append_nil]) ?_
  exact cover_heights.l0_den F K h1000005 [] a0 a1 K 0 []
theorem cover_heights.ok (F : FnE) (K : Nat) (h1000005 : F 1000005 = Hv.sfApp) (ps r : List PD) (h : cover_heights.app K ps = some r) : Sy.den F K cover_heights.t [] ps = some r := by
  obtain ⟨a, rfl, h2⟩ := app_ok (ra := cover_heights.ra) (rr := cover_heights.rr) (f := fun x => cover_heights.f K x.1 x.2) h
  rw [← h2]
  exact cover_heights.den F K h1000005 (a.1) (a.2)
noncomputable def l58 (K : Nat) : List (Nat × App) := (58, cover_heights.app K) :: l69 K
theorem gd58 (K : Nat) : Sy.Good Try.prog fns (mkF (l58 K)) := good_cons (K := K) cover_heights.is rfl (by kernel_rfl) (by decide +kernel) envOk relOk relNp mix (gd69 K) (exts_ok rfl rfl rfl rfl rfl rfl rfl rfl rfl rfl rfl rfl) (cover_heights.ok _ K rfl)
/-! ### cover_Often: function 37 -/
noncomputable def cover_Often.body : Code := Try.f37.body.getD .skip
noncomputable def cover_Often.sg : List S1 := [(.one .i), (.one (.l 37 4))]
noncomputable def cover_Often.sh : Sh := (.one (.one .i))
noncomputable def cover_Often.cf : Cfg := ⟨env, Try.f37.ntmps, Try.f37.results.toList, some cover_Often.sh, rel, [5, 9], [((5, 643, 6), ⟨[12], [], [(7, [(0, .i)]), (6, [(0, .i)])], []⟩), ((9, 1155, 6), ⟨[], [], [(24, [(0, .i), (0, .i), (0, .i)]), (8, [(0, (.own 37 4))])], []⟩), ((9, 1157, 8), ⟨[], [], [(24, [(0, .i), (0, .i), (0, .i)]), (8, [(0, (.own 37 4))])], []⟩)], (exts Try.f37.ntmps)⟩
noncomputable def cover_Often.b1 : Tree := (.ite (.lt (.va 8) (.lens [4] 0)) (.ite (.le (.nu 0) (.va 8)) (.get 4 (.va 8) [.i, .i, .i, .i] (.ite (.le (.nu 0) (.sub (.va 6) (.nu 1))) (.ite (.lt (.sub (.va 6) (.nu 1)) (.lens [5] 0)) (.get 5 (.sub (.va 6) (.nu 1)) [.i] (.ite (.le (.va 10) (.va 14)) (.ite (.le (.nu 0) (.va 6)) (.get 5 (.va 6) [.i] (.ite (.le (.va 15) (.va 12)) (.ite (.le (.lens [9] 1) (.nu cap4398046511104)) (.fix [(.va 9), (.row [(.ex (.va 10)), (.ex (.va 11)), (.ex (.va 12)), (.ex (.va 13))])] 4 (.back 0 8 [(.ex (.add (.va 8) (.nu 1))), (.li 16)])) .bad) (.back 0 8 [(.ex (.add (.va 8) (.nu 1))), (.li 9)]))) .bad) (.back 0 8 [(.ex (.add (.va 8) (.nu 1))), (.li 9)]))) .bad) .bad)) .bad) (.ite (.le (.nu 0) (.va 6)) (.get 5 (.va 6) [.i] (.ite (.le (.nu 0) (.sub (.va 6) (.nu 1))) (.ite (.lt (.sub (.va 6) (.nu 1)) (.lens [5] 0)) (.get 5 (.sub (.va 6) (.nu 1)) [.i] (.fix [(.va 9)] 4 (.ask 58 [(.ex (.mx (.va 0) (.nu 1))), (.li 12)] [.i] (.back 1 6 [(.ex (.add (.va 6) (.nu 1))), (.ex (.add (.va 7) (.mul (.sub (.va 10) (.va 11)) (.va 13))))])))) .bad) .bad)) .bad))
noncomputable def cover_Often.b0 : Tree := (.ite (.lt (.va 6) (.lens [5] 0)) (.loop [(.ex (.nu 0)), (.nl 4)] [.i, (.l 37 4)] cover_Often.b1) (.ret [(.ex (.va 7))]))
noncomputable def cover_Often.t : Tree := (.ask 1001037 [(.li 1)] [(.l 37 4)] (.ask 1000007 [(.li 2)] [(.l 37 4)] (.fix [(.va 3)] 4 (.ask 57 [(.li 4)] [(.l 3 1)] (.loop [(.ex (.nu 1)), (.ex (.nu 0))] [.i, .i] cover_Often.b0)))))
noncomputable def cover_Often.ra : Rw (Int × (List (Int × Int × Int × Int))) := (rwP rwI (rwL 37 4 rw_iiii rfl))
noncomputable def cover_Often.rr : Rw (Int) := rwI
theorem cover_Often.rr_en (r : Int) : cover_Often.rr.en r = [.int r] := rfl
noncomputable def cover_Often.l1 (K : Nat) (j0 : (Int) → (Int) → Option (Int)) (p0 : Int) (p4 : List (Int × Int × Int × Int)) (p5 : List (Int)) (p6 : Int) (p7 : Int) : Nat → (Int) → (List (Int × Int × Int × Int)) → Option (Int)
  | 0, _, _ => none
  | k + 1, x0, x1 => (if (decide (x0 < ((p4.length : Nat) : Int))) = true then (if (decide (0 ≤ x0)) = true then ((p4[(x0 : Int).toNat]?).bind fun b0 => (if (decide (0 ≤ (wrap64 (p6 - 1)))) = true then (if (decide ((wrap64 (p6 - 1)) < ((p5.length : Nat) : Int))) = true then ((p5[((wrap64 (p6 - 1)) : Int).toNat]?).bind fun b1 => (if (decide (b0.1 ≤ b1)) = true then (if (decide (0 ≤ p6)) = true then ((p5[(p6 : Int).toNat]?).bind fun b2 => (if (decide (b2 ≤ b0.2.2.1)) = true then (if (decide (((x1.length + 1 : Nat) : Int) ≤ cap4398046511104)) = true then (cover_Often.l1 K j0 p0 p4 p5 p6 p7 k (wrap64 (x0 + 1)) (x1 ++ [(b0.1, b0.2.1, b0.2.2.1, b0.2.2.2)])) else none) else (cover_Often.l1 K j0 p0 p4 p5 p6 p7 k (wrap64 (x0 + 1)) x1))) else none) else (cover_Often.l1 K j0 p0 p4 p5 p6 p7 k (wrap64 (x0 + 1)) x1))) else none) else none)) else none) else (if (decide (0 ≤ p6)) = true then ((p5[(p6 : Int).toNat]?).bind fun b0 => (if (decide (0 ≤ (wrap64 (p6 - 1)))) = true then (if (decide ((wrap64 (p6 - 1)) < ((p5.length : Nat) : Int))) = true then ((p5[((wrap64 (p6 - 1)) : Int).toNat]?).bind fun b1 => ((cover_heights.f K (mxi p0 1) x1).bind fun b2 => (j0 (wrap64 (p6 + 1)) (wrap64 (p7 + (wrap64 ((wrap64 (b0 - b1)) * b2))))))) else none) else none)) else none))
noncomputable def cover_Often.l0 (K : Nat) (p0 : Int) (p4 : List (Int × Int × Int × Int)) (p5 : List (Int)) : Nat → (Int) → (Int) → Option (Int)
  | 0, _, _ => none
  | k + 1, x0, x1 => (if (decide (x0 < ((p5.length : Nat) : Int))) = true then (cover_Often.l1 K (fun y0 y1 => cover_Often.l0 K p0 p4 p5 k y0 y1) p0 p4 p5 x0 x1 K 0 []) else some x1)
noncomputable def cover_Often.f (K : Nat) (a0 : Int) (a1 : List (Int × Int × Int × Int)) : Option (Int) := ((xclo 32 a1).bind fun b0 => ((Hv.xdf b0).bind fun b1 => ((cover_columns.f K b1).bind fun b2 => (cover_Often.l0 K a0 b1 b2 K 1 0))))
noncomputable def cover_Often.app (K : Nat) : App := fun ps => (cover_Often.ra.de ps).bind fun x => (cover_Often.f K x.1 x.2).map cover_Often.rr.en
theorem cover_Often.ap (K : Nat) (a0 : Int) (a1 : List (Int × Int × Int × Int)) : cover_Often.app K [.int a0, .lst 4 (a1.map rw_iiii.en)] = (cover_Often.f K a0 a1).map cover_Often.rr.en := app_ap cover_Often.ra cover_Often.rr (fun x => cover_Often.f K x.1 x.2) (a0, a1)
theorem cover_Often.is : FnIs Try.prog 37 (.init cover_Often.sg) cover_Often.t cover_Often.cf := ⟨Try.f37, cover_Often.body, 6000, Try.func37, by kernel_rfl, rfl, rfl, by decide +kernel, by kernel_rfl⟩
theorem cover_Often.l1_den (F : FnE) (K : Nat) (h57 : F 57 = cover_columns.app K) (h58 : F 58 = cover_heights.app K) (h1000007 : F 1000007 = Hv.dfApp) (h1001037 : F 1001037 = (cloApp 32 4)) (Js : List (List PD → Option (List PD))) (J0 : List PD → Option (List PD)) (j0 : (Int) → (Int) → Option (Int)) (p0 : Int) (p1 : List (Int × Int × Int × Int)) (p2 : List (Int × Int × Int × Int)) (p3 : List (Int × Int × Int × Int)) (p4 : List (Int × Int × Int × Int)) (p5 : List (Int)) (p6 : Int) (p7 : Int) (hJ0 : ∀ (y0 : Int) (y1 : Int), J0 [.int p0, .lst 4 (p1.map rw_iiii.en), .lst 4 (p2.map rw_iiii.en), .lst 4 (p3.map rw_iiii.en), .lst 4 (p4.map rw_iiii.en), .lst 1 (p5.map rw_i.en), .int y0, .int y1] = (j0 y0 y1).map cover_Often.rr.en) : ∀ (k : Nat) (x0 : Int) (x1 : List (Int × Int × Int × Int)), iterF (fun J ρ' => den F K cover_Often.b1 (J :: J0 :: Js) ρ') k [.int p0, .lst 4 (p1.map rw_iiii.en), .lst 4 (p2.map rw_iiii.en), .lst 4 (p3.map rw_iiii.en), .lst 4 (p4.map rw_iiii.en), .lst 1 (p5.map rw_i.en), .int p6, .int p7, .int x0, .lst 4 (x1.map rw_iiii.en)] = (cover_Often.l1 K j0 p0 p4 p5 p6 p7 k x0 x1).map cover_Often.rr.en := by
  intro k
  induction k with
  | zero => intros; rfl
  | succ k ih =>
    intro x0 x1
    show Sy.den F K cover_Often.b1 (iterF (fun J ρ' => Sy.den F K cover_Often.b1 (J :: J0 :: Js) ρ') k :: J0 :: Js) [.int p0, .lst 4 (p1.map rw_iiii.en), .lst 4 (p2.map rw_iiii.en), .lst 4 (p3.map rw_iiii.en), .lst 4 (p4.map rw_iiii.en), .lst 1 (p5.map rw_i.en), .int p6, .int p7, .int x0, .lst 4 (x1.map rw_iiii.en)] = _
    revert ih
    generalize iterF (fun J ρ' => Sy.den F K cover_Often.b1 (J :: J0 :: Js) ρ') k = J1
    intro ih
    rw [cover_Often.l1]
    show Sy.den F K cover_Often.b1 _ [.int p0, .lst 4 (p1.map rw_iiii.en), .lst 4 (p2.map rw_iiii.en), .lst 4 (p3.map rw_iiii.en), .lst 4 (p4.map rw_iiii.en), .lst 1 (p5.map rw_i.en), .int p6, .int p7, .int x0, .lst 4 (x1.map rw_iiii.en)] = _
    unfold cover_Often.b1
    refine den_ite (b := (decide (x0 < ((p4.length : Nat) : Int)))) (by simp only [pds, PC.pd, E.ev, B.ev, SE.ev, LE.rows, lensEv, kSl_eq, kPt_eq, ov_prop, List.getElem?_cons_zero, List.getElem?_cons_succ, List.length_map, Nat.add_zero, Nat.zero_add, Option.bind_some, Option.map_some, if_true, Subtype.eta, mxi, mni, List.map_append, List.map_cons, List.map_nil, List.cons_append, List.nil_append, List.append_nil]) ?_ ?_
    refine den_ite (b := (decide (0 ≤ x0))) rfl ?_ ?_
    refine den_get (L := p4) (rw := rw_iiii) rfl rfl rfl fun b0 => ?_
    show Sy.den F K _ _ [.int p0, .lst 4 (p1.map rw_iiii.en), .lst 4 (p2.map rw_iiii.en), .lst 4 (p3.map rw_iiii.en), .lst 4 (p4.map rw_iiii.en), .lst 1 (p5.map rw_i.en), .int p6, .int p7, .int x0, .lst 4 (x1.map rw_iiii.en), .int b0.1, .int b0.2.1, .int b0.2.2.1, .int b0.2.2.2] = _
    refine den_ite (b := (decide (0 ≤ (wrap64 (p6 - 1))))) rfl ?_ ?_
    refine den_ite (b := (decide ((wrap64 (p6 - 1)) < ((p5.length : Nat) : Int)))) (by simp only [pds, PC.pd, E.ev, B.ev, SE.ev, LE.rows, lensEv, kSl_eq, kPt_eq, ov_prop, List.getElem?_cons_zero, List.getElem?_cons_succ, List.length_map, Nat.add_zero, Nat.zero_add, Option.bind_some, Option.map_some, if_true, Subtype.eta, mxi, mni, List.map_append, List.map_cons, List.map_nil, List.cons_append, List.nil_append, List.append_nil]) ?_ ?_
    refine den_get (L := p5) (rw := rw_i) rfl rfl rfl fun b1 => ?_
    show Sy.den F K _ _ [.int p0, .lst 4 (p1.map rw_iiii.en), .lst 4 (p2.map rw_iiii.en), .lst 4 (p3.map rw_iiii.en), .lst 4 (p4.map rw_iiii.en), .lst 1 (p5.map rw_i.en), .int p6, .int p7, .int x0, .lst 4 (x1.map rw_iiii.en), .int b0.1, .int b0.2.1, .int b0.2.2.1, .int b0.2.2.2, .int b1] = _
    refine den_ite (b := (decide (b0.1 ≤ b1))) rfl ?_ ?_
    refine den_ite (b := (decide (0 ≤ p6))) rfl ?_ ?_
    refine den_get (L := p5) (rw := rw_i) rfl rfl rfl fun b2 => ?_
    show Sy.den F K _ _ [.int p0, .lst 4 (p1.map rw_iiii.en), .lst 4 (p2.map rw_iiii.en), .lst 4 (p3.map rw_iiii.en), .lst 4 (p4.map rw_iiii.en), .lst 1 (p5.map rw_i.en), .int p6, .int p7, .int x0, .lst 4 (x1.map rw_iiii.en), .int b0.1, .int b0.2.1, .int b0.2.2.1, .int b0.2.2.2, .int b1, .int b2] = _
    refine den_ite (b := (decide (b2 ≤ b0.2.2.1))) rfl ?_ ?_
    refine den_ite (b := (decide (((x1.length + 1 : Nat) : Int) ≤ cap4398046511104))) (by simp only [pds, PC.pd, E.ev, B.ev, SE.ev, LE.rows, lensEv, kSl_eq, kPt_eq, ov_prop, List.getElem?_cons_zero, List.getElem?_cons_succ, List.length_map, Nat.add_zero, Nat.zero_add, Option.bind_some, Option.map_some, if_true, Subtype.eta, mxi, mni, List.map_append, List.map_cons, List.map_nil, List.cons_append, List.nil_append, List.append_nil]) ?_ ?_
    refine den_fix (rows := List.map rw_iiii.en (x1 ++ [(b0.1, b0.2.1, b0.2.2.1, b0.2.2.2)])) (by simp only [pds, PC.pd, E.ev, B.ev, SE.ev, LE.rows, lensEv, kSl_eq, kPt_eq, ov_prop, List.getElem?_cons_zero, List.getElem?_cons_succ, List.length_map, Nat.add_zero, Nat.zero_add, Option.bind_some, Option.map_some, if_true, Subtype.eta, mxi, mni, List.map_append, List.map_cons, List.map_nil, List.cons_append, List.nil_append, List.append_nil, rw_iiii_en]) ?_
    show Sy.den F K _ _ [.int p0, .lst 4 (p1.map rw_iiii.en), .lst 4 (p2.map rw_iiii.en), .lst 4 (p3.map rw_iiii.en), .lst 4 (p4.map rw_iiii.en), .lst 1 (p5.map rw_i.en), .int p6, .int p7, .int x0, .lst 4 (x1.map rw_iiii.en), .int b0.1, .int b0.2.1, .int b0.2.2.1, .int b0.2.2.2, .int b1, .int b2, .lst 4 ((x1 ++ [(b0.1, b0.2.1, b0.2.2.1, b0.2.2.2)]).map rw_iiii.en)] = _
    refine den_back (vs := [.int (wrap64 (x0 + 1)), .lst 4 ((x1 ++ [(b0.1, b0.2.1, b0.2.2.1, b0.2.2.2)]).map rw_iiii.en)]) (by simp only [pds, PC.pd, E.ev, B.ev, SE.ev, LE.rows, lensEv, kSl_eq, kPt_eq, ov_prop, List.getElem?_cons_zero, List.getElem?_cons_succ, List.length_map, Nat.add_zero, Nat.zero_add, Option.bind_some, Option.map_some, if_true, Subtype.eta, mxi, mni, List.map_append, List.map_cons, List.map_nil, List.cons_append, List.nil_append, List.append_nil]) rfl ?_
    exact ih (wrap64 (x0 + 1)) (x1 ++ [(b0.1, b0.2.1, b0.2.2.1, b0.2.2.2)])
    exact den_bad _ _ _ _ _
    refine den_back (vs := [.int (wrap64 (x0 + 1)), .lst 4 (x1.map rw_iiii.en)]) (by simp only [pds, PC.pd, E.ev, B.ev, SE.ev, LE.rows, lensEv, kSl_eq, kPt_eq, ov_prop, List.getElem?_cons_zero, List.getElem?_cons_succ, List.length_map, Nat.add_zero, Nat.zero_add, Option.bind_some, Option.map_some, if_true, Subtype.eta, mxi, mni, List.map_append, List.map_cons, List.map_nil, List.cons_append, List.nil_append, List.append_nil]) rfl ?_
    exact ih (wrap64 (x0 + 1)) x1
    exact den_bad _ _ _ _ _
    refine den_back (vs := [.int (wrap64 (x0 + 1)), .lst 4 (x1.map rw_iiii.en)]) (by simp only [pds, PC.pd, E.ev, B.ev, SE.ev, LE.rows, lensEv, kSl_eq, kPt_eq, ov_prop, List.getElem?_cons_zero, List.getElem?_cons_succ, List.length_map, Nat.add_zero, Nat.zero_add, Option.bind_some, Option.map_some, if_true, Subtype.eta, mxi, mni, List.map_append, List.map_cons, List.map_nil, List.cons_append, List.nil_append, List.append_nil]) rfl ?_
    exact ih (wrap64 (x0 + 1)) x1
    exact den_bad _ _ _ _ _
    exact den_bad _ _ _ _ _
    exact den_bad _ _ _ _ _
    refine den_ite (b := (decide (0 ≤ p6))) rfl ?_ ?_
    refine den_get (L := p5) (rw := rw_i) rfl rfl rfl fun b0 => ?_
    show Sy.den F K _ _ [.int p0, .lst 4 (p1.map rw_iiii.en), .lst 4 (p2.map rw_iiii.en), .lst 4 (p3.map rw_iiii.en), .lst 4 (p4.map rw_iiii.en), .lst 1 (p5.map rw_i.en), .int p6, .int p7, .int x0, .lst 4 (x1.map rw_iiii.en), .int b0] = _
    refine den_ite (b := (decide (0 ≤ (wrap64 (p6 - 1))))) rfl ?_ ?_
    refine den_ite (b := (decide ((wrap64 (p6 - 1)) < ((p5.length : Nat) : Int)))) (by simp only [pds, PC.pd, E.ev, B.ev, SE.ev, LE.rows, lensEv, kSl_eq, kPt_eq, ov_prop, List.getElem?_cons_zero, List.getElem?_cons_succ, List.length_map, Nat.add_zero, Nat.zero_add, Option.bind_some, Option.map_some, if_true, Subtype.eta, mxi, mni, List.map_append, List.map_cons, List.map_nil, List.cons_append, List.nil_append, List.append_nil]) ?_ ?_
    refine den_get (L := p5) (rw := rw_i) rfl rfl rfl fun b1 => ?_
    show Sy.den F K _ _ [.int p0, .lst 4 (p1.map rw_iiii.en), .lst 4 (p2.map rw_iiii.en), .lst 4 (p3.map rw_iiii.en), .lst 4 (p4.map rw_iiii.en), .lst 1 (p5.map rw_i.en), .int p6, .int p7, .int x0, .lst 4 (x1.map rw_iiii.en), .int b0, .int b1] = _
    refine den_fix (rows := List.map rw_iiii.en x1) (by simp only [pds, PC.pd, E.ev, B.ev, SE.ev, LE.rows, lensEv, kSl_eq, kPt_eq, ov_prop, List.getElem?_cons_zero, List.getElem?_cons_succ, List.length_map, Nat.add_zero, Nat.zero_add, Option.bind_some, Option.map_some, if_true, Subtype.eta, mxi, mni, List.map_append, List.map_cons, List.map_nil, List.cons_append, List.nil_append, List.append_nil, rw_iiii_en]) ?_
    show Sy.den F K _ _ [.int p0, .lst 4 (p1.map rw_iiii.en), .lst 4 (p2.map rw_iiii.en), .lst 4 (p3.map rw_iiii.en), .lst 4 (p4.map rw_iiii.en), .lst 1 (p5.map rw_i.en), .int p6, .int p7, .int x0, .lst 4 (x1.map rw_iiii.en), .int b0, .int b1, .lst 4 (x1.map rw_iiii.en)] = _
    refine den_ask (ps := [.int (mxi p0 1), .lst 4 (x1.map rw_iiii.en)]) (rr := cover_heights.rr) (G := cover_heights.f K (mxi p0 1) x1) (by rw [h58]; exact cover_heights.ap K (mxi p0 1) x1) (by simp only [pds, PC.pd, E.ev, B.ev, SE.ev, LE.rows, lensEv, kSl_eq, kPt_eq, ov_prop, List.getElem?_cons_zero, List.getElem?_cons_succ, List.length_map, Nat.add_zero, Nat.zero_add, Option.bind_some, Option.map_some, if_true, Subtype.eta, mxi, mni, List.map_append, List.map_cons, List.map_nil, List.cons_append, List.nil_append, List.append_nil]) rfl fun b2 => ?_
    show Sy.den F K _ _ [.int p0, .lst 4 (p1.map rw_iiii.en), .lst 4 (p2.map rw_iiii.en), .lst 4 (p3.map rw_iiii.en), .lst 4 (p4.map rw_iiii.en), .lst 1 (p5.map rw_i.en), .int p6, .int p7, .int x0, .lst 4 (x1.map rw_iiii.en), .int b0, .int b1, .lst 4 (x1.map rw_iiii.en), .int b2] = _
    refine den_back (vs := [.int (wrap64 (p6 + 1)), .int (wrap64 (p7 + (wrap64 ((wrap64 (b0 - b1)) * b2))))]) rfl rfl ?_
    exact hJ0 (wrap64 (p6 + 1)) (wrap64 (p7 + (wrap64 ((wrap64 (b0 - b1)) * b2))))
    exact den_bad _ _ _ _ _
    exact den_bad _ _ _ _ _
    exact den_bad _ _ _ _ _
theorem cover_Often.l0_den (F : FnE) (K : Nat) (h57 : F 57 = cover_columns.app K) (h58 : F 58 = cover_heights.app K) (h1000007 : F 1000007 = Hv.dfApp) (h1001037 : F 1001037 = (cloApp 32 4)) (Js : List (List PD → Option (List PD))) (p0 : Int) (p1 : List (Int × Int × Int × Int)) (p2 : List (Int × Int × Int × Int)) (p3 : List (Int × Int × Int × Int)) (p4 : List (Int × Int × Int × Int)) (p5 : List (Int)) : ∀ (k : Nat) (x0 : Int) (x1 : Int), iterF (fun J ρ' => den F K cover_Often.b0 (J :: Js) ρ') k [.int p0, .lst 4 (p1.map rw_iiii.en), .lst 4 (p2.map rw_iiii.en), .lst 4 (p3.map rw_iiii.en), .lst 4 (p4.map rw_iiii.en), .lst 1 (p5.map rw_i.en), .int x0, .int x1] = (cover_Often.l0 K p0 p4 p5 k x0 x1).map cover_Often.rr.en := by
  intro k
  induction k with
  | zero => intros; rfl
  | succ k ih =>
    intro x0 x1
    show Sy.den F K cover_Often.b0 (iterF (fun J ρ' => Sy.den F K cover_Often.b0 (J :: Js) ρ') k :: Js) [.int p0, .lst 4 (p1.map rw_iiii.en), .lst 4 (p2.map rw_iiii.en), .lst 4 (p3.map rw_iiii.en), .lst 4 (p4.map rw_iiii.en), .lst 1 (p5.map rw_i.en), .int x0, .int x1] = _
    revert ih
    generalize iterF (fun J ρ' => Sy.den F K cover_Often.b0 (J :: Js) ρ') k = J0
    intro ih
    rw [cover_Often.l0]
    show Sy.den F K cover_Often.b0 _ [.int p0, .lst 4 (p1.map rw_iiii.en), .lst 4 (p2.map rw_iiii.en), .lst 4 (p3.map rw_iiii.en), .lst 4 (p4.map rw_iiii.en), .lst 1 (p5.map rw_i.en), .int x0, .int x1] = _
    unfold cover_Often.b0
    refine den_ite (b := (decide (x0 < ((p5.length : Nat) : Int)))) (by simp only [pds, PC.pd, E.ev, B.ev, SE.ev, LE.rows, lensEv, kSl_eq, kPt_eq, ov_prop, List.getElem?_cons_zero, List.getElem?_cons_succ, List.length_map, Nat.add_zero, Nat.zero_add, Option.bind_some, Option.map_some, if_true, Subtype.eta, mxi, mni, List.map_append, List.map_cons, List.map_nil, List.cons_append, List.nil_append, List.append_nil]) ?_ ?_
    refine den_loop (vs := [.int 0, .lst 4 []]) (by simp only [pds, PC.pd, E.ev, B.ev, SE.ev, LE.rows, lensEv, kSl_eq, kPt_eq, ov_prop, List.getElem?_cons_zero, List.getElem?_cons_succ, List.length_map, Nat.add_zero, Nat.zero_add, Option.bind_some, Option.map_some, if_true, Subtype.eta, mxi, mni, List.map_append, List.map_cons, List.map_nil, List.cons_append, List.nil_append, List.append_nil]) ?_
    exact cover_Often.l1_den F K h57 h58 h1000007 h1001037 Js J0 (fun y0 y1 => cover_Often.l0 K p0 p4 p5 k y0 y1) p0 p1 p2 p3 p4 p5 x0 x1 ih K 0 []
    exact den_ret rfl
theorem cover_Often.den (F : FnE) (K : Nat) (h57 : F 57 = cover_columns.app K) (h58 : F 58 = cover_heights.app K) (h1000007 : F 1000007 = Hv.dfApp) (h1001037 : F 1001037 = (cloApp 32 4)) (a0 : Int) (a1 : List (Int × Int × Int × Int)) : Sy.den F K cover_Often.t [] [.int a0, .lst 4 (a1.map rw_iiii.en)] = (cover_Often.f K a0 a1).map cover_Often.rr.en := by
  unfold cover_Often.t cover_Often.f
  refine den_ask (ps := [.lst 4 (a1.map rw_iiii.en)]) (rr := rwL 37 4 rw_iiii rfl) (G := xclo 32 a1) (by rw [h1001037]; exact xclo_ap 32 37 4 rw_iiii rfl a1) (by simp only [pds, PC.pd, E.ev, B.ev, SE.ev, LE.rows, lensEv, kSl_eq, kPt_eq, ov_prop, List.getElem?_cons_zero, List.getElem?_cons_succ, List.length_map, Nat.add_zero, Nat.zero_add, Option.bind_some, Option.map_some, if_true, Subtype.eta, mxi, mni, List.map_append, List.map_cons, List.map_nil, List.cons_append, List.nil_append, List.append_nil]) rfl fun b0 => ?_
  show Sy.den F K _ _ [.int a0, .lst 4 (a1.map rw_iiii.en), .lst 4 (b0.map rw_iiii.en)] = _
  refine den_ask (ps := [.lst 4 (b0.map rw_iiii.en)]) (rr := rwL 37 4 rw_iiii rfl) (G := Hv.xdf b0) (by rw [h1000007]; exact Hv.xdf_ap 37 4 b0) (by simp only [pds, PC.pd, E.ev, B.ev, SE.ev, LE.rows, lensEv, kSl_eq, kPt_eq, ov_prop, List.getElem?_cons_zero, List.getElem?_cons_succ, List.length_map, Nat.add_zero, Nat.zero_add, Option.bind_some, Option.map_some, if_true, Subtype.eta, mxi, mni, List.map_append, List.map_cons, List.map_nil, List.cons_append, List.nil_append, List.append_nil]) rfl fun b1 => ?_
  show Sy.den F K _ _ [.int a0, .lst 4 (a1.map rw_iiii.en), .lst 4 (b0.map rw_iiii.en), .lst 4 (b1.map rw_iiii.en)] = _
  refine den_fix (rows := List.map rw_iiii.en b1) (by simp only [pds, PC.pd, E.ev, B.ev, SE.ev, LE.rows, lensEv, kSl_eq, kPt_eq, ov_prop, List.getElem?_cons_zero, List.getElem?_cons_succ, List.length_map, Nat.add_zero, Nat.zero_add, Option.bind_some, Option.map_some, if_true, Subtype.eta, mxi, mni, List.map_append, List.map_cons, List.map_nil, List.cons_append, List.nil_append, List.append_nil, rw_iiii_en]) ?_
  show Sy.den F K _ _ [.int a0, .lst 4 (a1.map rw_iiii.en), .lst 4 (b0.map rw_iiii.en), .lst 4 (b1.map rw_iiii.en), .lst 4 (b1.map rw_iiii.en)] = _
  refine den_ask (ps := [.lst 4 (b1.map rw_iiii.en)]) (rr := cover_columns.rr) (G := cover_columns.f K b1) (by rw [h57]; exact cover_columns.ap K b1) (by simp only [pds, PC.pd, E.ev, B.ev, SE.ev, LE.rows, lensEv, kSl_eq, kPt_eq, ov_prop, List.getElem?_cons_zero, List.getElem?_cons_succ, List.length_map, Nat.add_zero, Nat.zero_add, Option.bind_some, Option.map_some, if_true, Subtype.eta, mxi, mni, List.map_append, List.map_cons, List.map_nil, List.cons_append, List.nil_append, List.append_nil]) rfl fun b2 => ?_
  show Sy.den F K _ _ [.int a0, .lst 4 (a1.map rw_iiii.en), .lst 4 (b0.map rw_iiii.en), .lst 4 (b1.map rw_iiii.en), .lst 4 (b1.map rw_iiii.en), .lst 1 (b2.map rw_i.en)] = _
  refine den_loop (vs := [.int 1, .int 0]) rfl ?_
  exact cover_Often.l0_den F K h57 h58 h1000007 h1001037 [] a0 a1 b0 b1 b1 b2 K 1 0
theorem cover_Often.ok (F : FnE) (K : Nat) (h57 : F 57 = cover_columns.app K) (h58 : F 58 = cover_heights.app K) (h1000007 : F 1000007 = Hv.dfApp) (h1001037 : F 1001037 = (cloApp 32 4)) (ps r : List PD) (h : cover_Often.app K ps = some r) : Sy.den F K cover_Often.t [] ps = some r := by
  obtain ⟨a, rfl, h2⟩ := app_ok (ra := cover_Often.ra) (rr := cover_Often.rr) (f := fun x => cover_Often.f K x.1 x.2) h
  rw [← h2]
  exact cover_Often.den F K h57 h58 h1000007 h1001037 (a.1) (a.2)
noncomputable def l37 (K : Nat) : List (Nat × App) := (37, cover_Often.app K) :: l58 K
theorem gd37 (K : Nat) : Sy.Good Try.prog fns (mkF (l37 K)) := good_cons (K := K) cover_Often.is rfl (by kernel_rfl) (by decide +kernel) envOk relOk relNp mix (gd58 K) (exts_ok rfl rfl rfl rfl rfl rfl rfl rfl rfl rfl rfl rfl) (cover_Often.ok _ K rfl rfl rfl rfl)
/-! ### cover_Area: function 35 -/
noncomputable def cover_Area.body : Code := Try.f35.body.getD .skip
noncomputable def cover_Area.sg : List S1 := [(.one (.l 37 4))]
noncomputable def cover_Area.sh : Sh := (.one (.one .i))
noncomputable def cover_Area.cf : Cfg := ⟨env, Try.f35.ntmps, Try.f35.results.toList, some cover_Area.sh, rel, [], [], (exts Try.f35.ntmps)⟩
noncomputable def cover_Area.t : Tree := (.ask 37 [(.ex (.nu 1)), (.li 0)] [.i] (.ret [(.ex (.va 1))]))
noncomputable def cover_Area.ra : Rw (List (Int × Int × Int × Int)) := (rwL 37 4 rw_iiii rfl)
noncomputable def cover_Area.rr : Rw (Int) := rwI
theorem cover_Area.rr_en (r : Int) : cover_Area.rr.en r = [.int r] := rfl
noncomputable def cover_Area.f (K : Nat) (a0 : List (Int × Int × Int × Int)) : Option (Int) := ((cover_Often.f K 1 a0).bind fun b0 => some b0)
noncomputable def cover_Area.app (K : Nat) : App := fun ps => (cover_Area.ra.de ps).bind fun x => (cover_Area.f K x).map cover_Area.rr.en
theorem cover_Area.ap (K : Nat) (a0 : List (Int × Int × Int × Int)) : cover_Area.app K [.lst 4 (a0.map rw_iiii.en)] = (cover_Area.f K a0).map cover_Area.rr.en := app_ap cover_Area.ra cover_Area.rr (fun x => cover_Area.f K x) (a0)
theorem cover_Area.is : FnIs Try.prog 35 (.init cover_Area.sg) cover_Area.t cover_Area.cf := ⟨Try.f35, cover_Area.body, 6000, Try.func35, by kernel_rfl, rfl, rfl, by decide +kernel, by kernel_rfl⟩
theorem cover_Area.den (F : FnE) (K : Nat) (h37 : F 37 = cover_Often.app K) (a0 : List (Int × Int × Int × Int)) : Sy.den F K cover_Area.t [] [.lst 4 (a0.map rw_iiii.en)] = (cover_Area.f K a0).map cover_Area.rr.en := by
  unfold cover_Area.t cover_Area.f
  refine den_ask (ps := [.int 1, .lst 4 (a0.map rw_iiii.en)]) (rr := cover_Often.rr) (G := cover_Often.f K 1 a0) (by rw [h37]; exact cover_Often.ap K 1 a0) (by simp only [pds, PC.pd, E.ev, B.ev, SE.ev, LE.rows, lensEv, kSl_eq, kPt_eq, ov_prop, List.getElem?_cons_zero, List.getElem?_cons_succ, List.length_map, Nat.add_zero, Nat.zero_add, Option.bind_some, Option.map_some, if_true, Subtype.eta, mxi, mni, List.map_append, List.map_cons, List.map_nil, List.cons_append, List.nil_append, List.append_nil]) rfl fun b0 => ?_
  show Sy.den F K _ _ [.lst 4 (a0.map rw_iiii.en), .int b0] = _
  exact den_ret rfl
theorem cover_Area.ok (F : FnE) (K : Nat) (h37 : F 37 = cover_Often.app K) (ps r : List PD) (h : cover_Area.app K ps = some r) : Sy.den F K cover_Area.t [] ps = some r := by
  obtain ⟨a, rfl, h2⟩ := app_ok (ra := cover_Area.ra) (rr := cover_Area.rr) (f := fun x => cover_Area.f K x) h
  rw [← h2]
  exact cover_Area.den F K h37 a
noncomputable def l35 (K : Nat) : List (Nat × App) := (35, cover_Area.app K) :: l37 K
theorem gd35 (K : Nat) : Sy.Good Try.prog fns (mkF (l35 K)) := good_cons (K := K) cover_Area.is rfl (by kernel_rfl) (by decide +kernel) envOk relOk relNp mix (gd37 K) (exts_ok rfl rfl rfl rfl rfl rfl rfl rfl rfl rfl rfl rfl) (cover_Area.ok _ K rfl)
/-! ### gatherumlaw49_alive: function 33 -/
noncomputable def gatherumlaw49_alive.body : Code := Try.f33.body.getD .skip
noncomputable def gatherumlaw49_alive.sg : List S1 := []
noncomputable def gatherumlaw49_alive.sh : Sh := (.one (.one .b))
noncomputable def gatherumlaw49_alive.cf : Cfg := ⟨env, Try.f33.ntmps, Try.f33.results.toList, some gatherumlaw49_alive.sh, rel, [], [], (exts Try.f33.ntmps)⟩
noncomputable def gatherumlaw49_alive.t : Tree := (.fix [(.row [(.ex (.nu 0)), (.ex (.nu 0)), (.ex (.nu 4)), (.ex (.nu 4))]), (.row [(.ex (.nu 2)), (.ex (.nu 2)), (.ex (.nu 6)), (.ex (.nu 6))])] 4 (.ask 35 [(.li 0)] [.i] (.ite (.eq (.va 1) (.nu 28)) (.fix [(.row [(.ex (.nu 0)), (.ex (.nu 0)), (.ex (.nu 4)), (.ex (.nu 4))]), (.row [(.ex (.nu 2)), (.ex (.nu 2)), (.ex (.nu 6)), (.ex (.nu 6))])] 4 (.ask 37 [(.ex (.nu 2)), (.li 2)] [.i] (.ret [(.bo (.eq (.va 3) (.nu 4)))]))) (.ret [(.bo (.co false))]))))
noncomputable def gatherumlaw49_alive.ra : Rw (Unit) := rwU
noncomputable def gatherumlaw49_alive.rr : Rw (Bool) := rwB
theorem gatherumlaw49_alive.rr_en (r : Bool) : gatherumlaw49_alive.rr.en r = [.bool r] := rfl
noncomputable def gatherumlaw49_alive.f (K : Nat) : Option (Bool) := ((cover_Area.f K ((0, 0, 4, 4) :: [(2, 2, 6, 6)])).bind fun b0 => (if (b0 == 28) = true then ((cover_Often.f K 2 ((0, 0, 4, 4) :: [(2, 2, 6, 6)])).bind fun b1 => some (b1 == 4)) else some false))
noncomputable def gatherumlaw49_alive.app (K : Nat) : App := fun ps => (gatherumlaw49_alive.ra.de ps).bind fun x => (gatherumlaw49_alive.f K).map gatherumlaw49_alive.rr.en
theorem gatherumlaw49_alive.ap (K : Nat) : gatherumlaw49_alive.app K [] = (gatherumlaw49_alive.f K).map gatherumlaw49_alive.rr.en := app_ap gatherumlaw49_alive.ra gatherumlaw49_alive.rr (fun x => gatherumlaw49_alive.f K) ()
theorem gatherumlaw49_alive.is : FnIs Try.prog 33 (.init gatherumlaw49_alive.sg) gatherumlaw49_alive.t gatherumlaw49_alive.cf := ⟨Try.f33, gatherumlaw49_alive.body, 6000, Try.func33, by kernel_rfl, rfl, rfl, by decide +kernel, by kernel_rfl⟩
theorem gatherumlaw49_alive.den (F : FnE) (K : Nat) (h35 : F 35 = cover_Area.app K) (h37 : F 37 = cover_Often.app K) : Sy.den F K gatherumlaw49_alive.t [] [] = (gatherumlaw49_alive.f K).map gatherumlaw49_alive.rr.en := by
  unfold gatherumlaw49_alive.t gatherumlaw49_alive.f
  refine den_fix (rows := List.map rw_iiii.en ((0, 0, 4, 4) :: [(2, 2, 6, 6)])) (by simp only [pds, PC.pd, E.ev, B.ev, SE.ev, LE.rows, lensEv, kSl_eq, kPt_eq, ov_prop, List.getElem?_cons_zero, List.getElem?_cons_succ, List.length_map, Nat.add_zero, Nat.zero_add, Option.bind_some, Option.map_some, if_true, Subtype.eta, mxi, mni, List.map_append, List.map_cons, List.map_nil, List.cons_append, List.nil_append, List.append_nil, rw_iiii_en]) ?_
  show Sy.den F K _ _ [.lst 4 (((0, 0, 4, 4) :: [(2, 2, 6, 6)]).map rw_iiii.en)] = _
  refine den_ask (ps := [.lst 4 (((0, 0, 4, 4) :: [(2, 2, 6, 6)]).map rw_iiii.en)]) (rr := cover_Area.rr) (G := cover_Area.f K ((0, 0, 4, 4) :: [(2, 2, 6, 6)])) (by rw [h35]; exact cover_Area.ap K ((0, 0, 4, 4) :: [(2, 2, 6, 6)])) (by simp only [pds, PC.pd, E.ev, B.ev, SE.ev, LE.rows, lensEv, kSl_eq, kPt_eq, ov_prop, List.getElem?_cons_zero, List.getElem?_cons_succ, List.length_map, Nat.add_zero, Nat.zero_add, Option.bind_some, Option.map_some, if_true, Subtype.eta, mxi, mni, List.map_append, List.map_cons, List.map_nil, List.cons_append, List.nil_append, List.append_nil]) rfl fun b0 => ?_
  show Sy.den F K _ _ [.lst 4 (((0, 0, 4, 4) :: [(2, 2, 6, 6)]).map rw_iiii.en), .int b0] = _
  refine den_ite (b := (b0 == 28)) rfl ?_ ?_
  refine den_fix (rows := List.map rw_iiii.en ((0, 0, 4, 4) :: [(2, 2, 6, 6)])) (by simp only [pds, PC.pd, E.ev, B.ev, SE.ev, LE.rows, lensEv, kSl_eq, kPt_eq, ov_prop, List.getElem?_cons_zero, List.getElem?_cons_succ, List.length_map, Nat.add_zero, Nat.zero_add, Option.bind_some, Option.map_some, if_true, Subtype.eta, mxi, mni, List.map_append, List.map_cons, List.map_nil, List.cons_append, List.nil_append, List.append_nil, rw_iiii_en]) ?_
  show Sy.den F K _ _ [.lst 4 (((0, 0, 4, 4) :: [(2, 2, 6, 6)]).map rw_iiii.en), .int b0, .lst 4 (((0, 0, 4, 4) :: [(2, 2, 6, 6)]).map rw_iiii.en)] = _
  refine den_ask (ps := [.int 2, .lst 4 (((0, 0, 4, 4) :: [(2, 2, 6, 6)]).map rw_iiii.en)]) (rr := cover_Often.rr) (G := cover_Often.f K 2 ((0, 0, 4, 4) :: [(2, 2, 6, 6)])) (by rw [h37]; exact cover_Often.ap K 2 ((0, 0, 4, 4) :: [(2, 2, 6, 6)])) (by simp only [pds, PC.pd, E.ev, B.ev, SE.ev, LE.rows, lensEv, kSl_eq, kPt_eq, ov_prop, List.getElem?_cons_zero, List.getElem?_cons_succ, List.length_map, Nat.add_zero, Nat.zero_add, Option.bind_some, Option.map_some, if_true, Subtype.eta, mxi, mni, List.map_append, List.map_cons, List.map_nil, List.cons_append, List.nil_append, List.append_nil]) rfl fun b1 => ?_
  show Sy.den F K _ _ [.lst 4 (((0, 0, 4, 4) :: [(2, 2, 6, 6)]).map rw_iiii.en), .int b0, .lst 4 (((0, 0, 4, 4) :: [(2, 2, 6, 6)]).map rw_iiii.en), .int b1] = _
  exact den_ret rfl
  exact den_ret rfl
theorem gatherumlaw49_alive.ok (F : FnE) (K : Nat) (h35 : F 35 = cover_Area.app K) (h37 : F 37 = cover_Often.app K) (ps r : List PD) (h : gatherumlaw49_alive.app K ps = some r) : Sy.den F K gatherumlaw49_alive.t [] ps = some r := by
  obtain ⟨a, rfl, h2⟩ := app_ok (ra := gatherumlaw49_alive.ra) (rr := gatherumlaw49_alive.rr) (f := fun x => gatherumlaw49_alive.f K) h
  rw [← h2]
  exact gatherumlaw49_alive.den F K h35 h37
noncomputable def l33 (K : Nat) : List (Nat × App) := (33, gatherumlaw49_alive.app K) :: l35 K
theorem gd33 (K : Nat) : Sy.Good Try.prog fns (mkF (l33 K)) := good_cons (K := K) gatherumlaw49_alive.is rfl (by kernel_rfl) (by decide +kernel) envOk relOk relNp mix (gd35 K) (exts_ok rfl rfl rfl rfl rfl rfl rfl rfl rfl rfl rfl rfl) (gatherumlaw49_alive.ok _ K rfl rfl)
/-! ### gatherumlaw49_area: function 38 -/
noncomputable def gatherumlaw49_area.body : Code := Try.f38.body.getD .skip
noncomputable def gatherumlaw49_area.sg : List S1 := [(.agg [.i, .i, .i, .i])]
noncomputable def gatherumlaw49_area.sh : Sh := (.one (.one .i))
noncomputable def gatherumlaw49_area.cf : Cfg := ⟨env, Try.f38.ntmps, Try.f38.results.toList, some gatherumlaw49_area.sh, rel, [], [], (exts Try.f38.ntmps)⟩
noncomputable def gatherumlaw49_area.t : Tree := (.ask 30 [(.ex (.va 0)), (.ex (.va 1)), (.ex (.va 2)), (.ex (.va 3))] [.b] (.ite (.va 4) (.ret [(.ex (.nu 0))]) (.ret [(.ex (.mul (.sub (.va 2) (.va 0)) (.sub (.va 3) (.va 1))))])))
noncomputable def gatherumlaw49_area.ra : Rw (Int × Int × Int × Int) := (rwP rwI (rwP rwI (rwP rwI rwI)))
noncomputable def gatherumlaw49_area.rr : Rw (Int) := rwI
theorem gatherumlaw49_area.rr_en (r : Int) : gatherumlaw49_area.rr.en r = [.int r] := rfl
noncomputable def gatherumlaw49_area.f (a0_0 : Int) (a0_1 : Int) (a0_2 : Int) (a0_3 : Int) : Option (Int) := ((gatherumref04_Empty.f a0_0 a0_1 a0_2 a0_3).bind fun b0 => (if b0 = true then some 0 else some (wrap64 ((wrap64 (a0_2 - a0_0)) * (wrap64 (a0_3 - a0_1))))))
noncomputable def gatherumlaw49_area.app : App := fun ps => (gatherumlaw49_area.ra.de ps).bind fun x => (gatherumlaw49_area.f x.1 x.2.1 x.2.2.1 x.2.2.2).map gatherumlaw49_area.rr.en
theorem gatherumlaw49_area.ap (a0_0 : Int) (a0_1 : Int) (a0_2 : Int) (a0_3 : Int) : gatherumlaw49_area.app [.int a0_0, .int a0_1, .int a0_2, .int a0_3] = (gatherumlaw49_area.f a0_0 a0_1 a0_2 a0_3).map gatherumlaw49_area.rr.en := app_ap gatherumlaw49_area.ra gatherumlaw49_area.rr (fun x => gatherumlaw49_area.f x.1 x.2.1 x.2.2.1 x.2.2.2) (a0_0, a0_1, a0_2, a0_3)
theorem gatherumlaw49_area.is : FnIs Try.prog 38 (.init gatherumlaw49_area.sg) gatherumlaw49_area.t gatherumlaw49_area.cf := ⟨Try.f38, gatherumlaw49_area.body, 6000, Try.func38, by kernel_rfl, rfl, rfl, by decide +kernel, by kernel_rfl⟩
theorem gatherumlaw49_area.den (F : FnE) (K : Nat) (h30 : F 30 = gatherumref04_Empty.app) (a0_0 : Int) (a0_1 : Int) (a0_2 : Int) (a0_3 : Int) : Sy.den F K gatherumlaw49_area.t [] [.int a0_0, .int a0_1, .int a0_2, .int a0_3] = (gatherumlaw49_area.f a0_0 a0_1 a0_2 a0_3).map gatherumlaw49_area.rr.en := by
  unfold gatherumlaw49_area.t gatherumlaw49_area.f
  refine den_ask (ps := [.int a0_0, .int a0_1, .int a0_2, .int a0_3]) (rr := gatherumref04_Empty.rr) (G := gatherumref04_Empty.f a0_0 a0_1 a0_2 a0_3) (by rw [h30]; exact gatherumref04_Empty.ap a0_0 a0_1 a0_2 a0_3) rfl rfl fun b0 => ?_
  show Sy.den F K _ _ [.int a0_0, .int a0_1, .int a0_2, .int a0_3, .bool b0] = _
  refine den_ite (b := b0) rfl ?_ ?_
  exact den_ret rfl
  exact den_ret rfl
theorem gatherumlaw49_area.ok (F : FnE) (K : Nat) (h30 : F 30 = gatherumref04_Empty.app) (ps r : List PD) (h : gatherumlaw49_area.app ps = some r) : Sy.den F K gatherumlaw49_area.t [] ps = some r := by
  obtain ⟨a, rfl, h2⟩ := app_ok (ra := gatherumlaw49_area.ra) (rr := gatherumlaw49_area.rr) (f := fun x => gatherumlaw49_area.f x.1 x.2.1 x.2.2.1 x.2.2.2) h
  rw [← h2]
  exact gatherumlaw49_area.den F K h30 (a.1) (a.2.1) (a.2.2.1) (a.2.2.2)
noncomputable def l38 (K : Nat) : List (Nat × App) := (38, gatherumlaw49_area.app) :: l33 K
theorem gd38 (K : Nat) : Sy.Good Try.prog fns (mkF (l38 K)) := good_cons (K := K) gatherumlaw49_area.is rfl (by kernel_rfl) (by decide +kernel) envOk relOk relNp mix (gd33 K) (exts_ok rfl rfl rfl rfl rfl rfl rfl rfl rfl rfl rfl rfl) (gatherumlaw49_area.ok _ K rfl)
/-! ### gatherumlaw49_CoverJoins: function 10 -/
noncomputable def gatherumlaw49_CoverJoins.body : Code := Try.f10.body.getD .skip
noncomputable def gatherumlaw49_CoverJoins.sg : List S1 := [(.agg [.i, .i, .i, .i]), (.agg [.i, .i, .i, .i]), (.agg [.i, .i, .i, .i])]
noncomputable def gatherumlaw49_CoverJoins.sh : Sh := (.one (.one .b))
noncomputable def gatherumlaw49_CoverJoins.cf : Cfg := ⟨env, Try.f10.ntmps, Try.f10.results.toList, some gatherumlaw49_CoverJoins.sh, rel, [], [], (exts Try.f10.ntmps)⟩
noncomputable def gatherumlaw49_CoverJoins.t : Tree := (.ask 33 [] [.b] (.ite (.not (.va 12)) (.ret [(.bo (.co false))]) (.ask 32 [(.ex (.va 0)), (.ex (.va 1)), (.ex (.va 2)), (.ex (.va 3)), (.ex (.va 4)), (.ex (.va 5)), (.ex (.va 6)), (.ex (.va 7))] [.i, .i, .i, .i] (.ask 4002372 [(.ex (.va 0)), (.ex (.va 1)), (.ex (.va 2)), (.ex (.va 3)), (.ex (.va 4)), (.ex (.va 5)), (.ex (.va 6)), (.ex (.va 7))] [(.l 37 4)] (.ask 35 [(.li 17)] [.i] (.ask 38 [(.ex (.va 0)), (.ex (.va 1)), (.ex (.va 2)), (.ex (.va 3))] [.i] (.ask 38 [(.ex (.va 4)), (.ex (.va 5)), (.ex (.va 6)), (.ex (.va 7))] [.i] (.ask 38 [(.ex (.va 13)), (.ex (.va 14)), (.ex (.va 15)), (.ex (.va 16))] [.i] (.ite (.not (.eq (.va 18) (.sub (.add (.va 19) (.va 20)) (.va 21)))) (.ret [(.bo (.co false))]) (.ask 37 [(.ex (.nu 2)), (.li 17)] [.i] (.ite (.not (.eq (.va 22) (.va 21))) (.ret [(.bo (.co false))]) (.ask 4002372 [(.ex (.va 0)), (.ex (.va 1)), (.ex (.va 2)), (.ex (.va 3)), (.ex (.va 0)), (.ex (.va 1)), (.ex (.va 2)), (.ex (.va 3))] [(.l 37 4)] (.ask 35 [(.li 23)] [.i] (.ite (.not (.eq (.va 24) (.va 19))) (.ret [(.bo (.co false))]) (.ask 4002372 [(.ex (.va 0)), (.ex (.va 1)), (.ex (.va 2)), (.ex (.va 3)), (.ex (.va 4)), (.ex (.va 5)), (.ex (.va 6)), (.ex (.va 7)), (.ex (.va 8)), (.ex (.va 9)), (.ex (.va 10)), (.ex (.va 11))] [(.l 37 4)] (.ask 35 [(.li 25)] [.i] (.ask 4002372 [(.ex (.va 8)), (.ex (.va 9)), (.ex (.va 10)), (.ex (.va 11)), (.ex (.va 0)), (.ex (.va 1)), (.ex (.va 2)), (.ex (.va 3)), (.ex (.va 4)), (.ex (.va 5)), (.ex (.va 6)), (.ex (.va 7))] [(.l 37 4)] (.ask 35 [(.li 27)] [.i] (.ite (.eq (.va 26) (.va 28)) (.ask 38 [(.ex (.va 8)), (.ex (.va 9)), (.ex (.va 10)), (.ex (.va 11))] [.i] (.ask 32 [(.ex (.va 0)), (.ex (.va 1)), (.ex (.va 2)), (.ex (.va 3)), (.ex (.va 8)), (.ex (.va 9)), (.ex (.va 10)), (.ex (.va 11))] [.i, .i, .i, .i] (.ask 32 [(.ex (.va 4)), (.ex (.va 5)), (.ex (.va 6)), (.ex (.va 7)), (.ex (.va 8)), (.ex (.va 9)), (.ex (.va 10)), (.ex (.va 11))] [.i, .i, .i, .i] (.ask 4002372 [(.ex (.va 30)), (.ex (.va 31)), (.ex (.va 32)), (.ex (.va 33)), (.ex (.va 34)), (.ex (.va 35)), (.ex (.va 36)), (.ex (.va 37))] [(.l 37 4)] (.ask 35 [(.li 38)] [.i] (.ret [(.bo (.eq (.va 26) (.sub (.add (.va 18) (.va 29)) (.va 39))))])))))) (.ret [(.bo (.co false))]))))))))))))))))))))
noncomputable def gatherumlaw49_CoverJoins.ra : Rw (Int × Int × Int × Int × Int × Int × Int × Int × Int × Int × Int × Int) := (rwP rwI (rwP rwI (rwP rwI (rwP rwI (rwP rwI (rwP rwI (rwP rwI (rwP rwI (rwP rwI (rwP rwI (rwP rwI rwI)))))))))))
noncomputable def gatherumlaw49_CoverJoins.rr : Rw (Bool) := rwB
theorem gatherumlaw49_CoverJoins.rr_en (r : Bool) : gatherumlaw49_CoverJoins.rr.en r = [.bool r] := rfl
noncomputable def gatherumlaw49_CoverJoins.f (K : Nat) (a0_0 : Int) (a0_1 : Int) (a0_2 : Int) (a0_3 : Int) (a1_0 : Int) (a1_1 : Int) (a1_2 : Int) (a1_3 : Int) (a2_0 : Int) (a2_1 : Int) (a2_2 : Int) (a2_3 : Int) : Option (Bool) := ((gatherumlaw49_alive.f K).bind fun b0 => (if (!b0) = true then some false else ((gatherumref04_Meet.f a0_0 a0_1 a0_2 a0_3 a1_0 a1_1 a1_2 a1_3).bind fun b1 => ((xmk [(a0_0, a0_1, a0_2, a0_3), (a1_0, a1_1, a1_2, a1_3)]).bind fun b2 => ((cover_Area.f K b2).bind fun b3 => ((gatherumlaw49_area.f a0_0 a0_1 a0_2 a0_3).bind fun b4 => ((gatherumlaw49_area.f a1_0 a1_1 a1_2 a1_3).bind fun b5 => ((gatherumlaw49_area.f b1.1 b1.2.1 b1.2.2.1 b1.2.2.2).bind fun b6 => (if (!(b3 == (wrap64 ((wrap64 (b4 + b5)) - b6)))) = true then some false else ((cover_Often.f K 2 b2).bind fun b7 => (if (!(b7 == b6)) = true then some false else ((xmk [(a0_0, a0_1, a0_2, a0_3), (a0_0, a0_1, a0_2, a0_3)]).bind fun b8 => ((cover_Area.f K b8).bind fun b9 => (if (!(b9 == b4)) = true then some false else ((xmk [(a0_0, a0_1, a0_2, a0_3), (a1_0, a1_1, a1_2, a1_3), (a2_0, a2_1, a2_2, a2_3)]).bind fun b10 => ((cover_Area.f K b10).bind fun b11 => ((xmk [(a2_0, a2_1, a2_2, a2_3), (a0_0, a0_1, a0_2, a0_3), (a1_0, a1_1, a1_2, a1_3)]).bind fun b12 => ((cover_Area.f K b12).bind fun b13 => (if (b11 == b13) = true then ((gatherumlaw49_area.f a2_0 a2_1 a2_2 a2_3).bind fun b14 => ((gatherumref04_Meet.f a0_0 a0_1 a0_2 a0_3 a2_0 a2_1 a2_2 a2_3).bind fun b15 => ((gatherumref04_Meet.f a1_0 a1_1 a1_2 a1_3 a2_0 a2_1 a2_2 a2_3).bind fun b16 => ((xmk [(b15.1, b15.2.1, b15.2.2.1, b15.2.2.2), (b16.1, b16.2.1, b16.2.2.1, b16.2.2.2)]).bind fun b17 => ((cover_Area.f K b17).bind fun b18 => some (b11 == (wrap64 ((wrap64 (b3 + b14)) - b18)))))))) else some false)))))))))))))))))))
noncomputable def gatherumlaw49_CoverJoins.app (K : Nat) : App := fun ps => (gatherumlaw49_CoverJoins.ra.de ps).bind fun x => (gatherumlaw49_CoverJoins.f K x.1 x.2.1 x.2.2.1 x.2.2.2.1 x.2.2.2.2.1 x.2.2.2.2.2.1 x.2.2.2.2.2.2.1 x.2.2.2.2.2.2.2.1 x.2.2.2.2.2.2.2.2.1 x.2.2.2.2.2.2.2.2.2.1 x.2.2.2.2.2.2.2.2.2.2.1 x.2.2.2.2.2.2.2.2.2.2.2).map gatherumlaw49_CoverJoins.rr.en
theorem gatherumlaw49_CoverJoins.ap (K : Nat) (a0_0 : Int) (a0_1 : Int) (a0_2 : Int) (a0_3 : Int) (a1_0 : Int) (a1_1 : Int) (a1_2 : Int) (a1_3 : Int) (a2_0 : Int) (a2_1 : Int) (a2_2 : Int) (a2_3 : Int) : gatherumlaw49_CoverJoins.app K [.int a0_0, .int a0_1, .int a0_2, .int a0_3, .int a1_0, .int a1_1, .int a1_2, .int a1_3, .int a2_0, .int a2_1, .int a2_2, .int a2_3] = (gatherumlaw49_CoverJoins.f K a0_0 a0_1 a0_2 a0_3 a1_0 a1_1 a1_2 a1_3 a2_0 a2_1 a2_2 a2_3).map gatherumlaw49_CoverJoins.rr.en := app_ap gatherumlaw49_CoverJoins.ra gatherumlaw49_CoverJoins.rr (fun x => gatherumlaw49_CoverJoins.f K x.1 x.2.1 x.2.2.1 x.2.2.2.1 x.2.2.2.2.1 x.2.2.2.2.2.1 x.2.2.2.2.2.2.1 x.2.2.2.2.2.2.2.1 x.2.2.2.2.2.2.2.2.1 x.2.2.2.2.2.2.2.2.2.1 x.2.2.2.2.2.2.2.2.2.2.1 x.2.2.2.2.2.2.2.2.2.2.2) (a0_0, a0_1, a0_2, a0_3, a1_0, a1_1, a1_2, a1_3, a2_0, a2_1, a2_2, a2_3)
theorem gatherumlaw49_CoverJoins.is : FnIs Try.prog 10 (.init gatherumlaw49_CoverJoins.sg) gatherumlaw49_CoverJoins.t gatherumlaw49_CoverJoins.cf := ⟨Try.f10, gatherumlaw49_CoverJoins.body, 6000, Try.func10, by kernel_rfl, rfl, rfl, by decide +kernel, by kernel_rfl⟩
theorem gatherumlaw49_CoverJoins.den (F : FnE) (K : Nat) (h32 : F 32 = gatherumref04_Meet.app) (h33 : F 33 = gatherumlaw49_alive.app K) (h35 : F 35 = cover_Area.app K) (h37 : F 37 = cover_Often.app K) (h38 : F 38 = gatherumlaw49_area.app) (h4002372 : F 4002372 = (mkApp 4)) (a0_0 : Int) (a0_1 : Int) (a0_2 : Int) (a0_3 : Int) (a1_0 : Int) (a1_1 : Int) (a1_2 : Int) (a1_3 : Int) (a2_0 : Int) (a2_1 : Int) (a2_2 : Int) (a2_3 : Int) : Sy.den F K gatherumlaw49_CoverJoins.t [] [.int a0_0, .int a0_1, .int a0_2, .int a0_3, .int a1_0, .int a1_1, .int a1_2, .int a1_3, .int a2_0, .int a2_1, .int a2_2, .int a2_3] = (gatherumlaw49_CoverJoins.f K a0_0 a0_1 a0_2 a0_3 a1_0 a1_1 a1_2 a1_3 a2_0 a2_1 a2_2 a2_3).map gatherumlaw49_CoverJoins.rr.en := by
  unfold gatherumlaw49_CoverJoins.t gatherumlaw49_CoverJoins.f
  refine den_ask (ps := []) (rr := gatherumlaw49_alive.rr) (G := gatherumlaw49_alive.f K) (by rw [h33]; exact gatherumlaw49_alive.ap K) rfl rfl fun b0 => ?_
  show Sy.den F K _ _ [.int a0_0, .int a0_1, .int a0_2, .int a0_3, .int a1_0, .int a1_1, .int a1_2, .int a1_3, .int a2_0, .int a2_1, .int a2_2, .int a2_3, .bool b0] = _
  refine den_ite (b := (!b0)) rfl ?_ ?_
  exact den_ret rfl
  refine den_ask (ps := [.int a0_0, .int a0_1, .int a0_2, .int a0_3, .int a1_0, .int a1_1, .int a1_2, .int a1_3]) (rr := gatherumref04_Meet.rr) (G := gatherumref04_Meet.f a0_0 a0_1 a0_2 a0_3 a1_0 a1_1 a1_2 a1_3) (by rw [h32]; exact gatherumref04_Meet.ap a0_0 a0_1 a0_2 a0_3 a1_0 a1_1 a1_2 a1_3) rfl rfl fun b1 => ?_
  show Sy.den F K _ _ [.int a0_0, .int a0_1, .int a0_2, .int a0_3, .int a1_0, .int a1_1, .int a1_2, .int a1_3, .int a2_0, .int a2_1, .int a2_2, .int a2_3, .bool b0, .int b1.1, .int b1.2.1, .int b1.2.2.1, .int b1.2.2.2] = _
  refine den_ask (ps := [.int a0_0, .int a0_1, .int a0_2, .int a0_3, .int a1_0, .int a1_1, .int a1_2, .int a1_3]) (rr := rwL 37 4 rw_iiii rfl) (G := xmk [(a0_0, a0_1, a0_2, a0_3), (a1_0, a1_1, a1_2, a1_3)]) (by rw [h4002372]; exact xmk_ap 37 4 rw_iiii rfl (by decide) [(a0_0, a0_1, a0_2, a0_3), (a1_0, a1_1, a1_2, a1_3)] rfl) rfl rfl fun b2 => ?_
  show Sy.den F K _ _ [.int a0_0, .int a0_1, .int a0_2, .int a0_3, .int a1_0, .int a1_1, .int a1_2, .int a1_3, .int a2_0, .int a2_1, .int a2_2, .int a2_3, .bool b0, .int b1.1, .int b1.2.1, .int b1.2.2.1, .int b1.2.2.2, .lst 4 (b2.map rw_iiii.en)] = _
  refine den_ask (ps := [.lst 4 (b2.map rw_iiii.en)]) (rr := cover_Area.rr) (G := cover_Area.f K b2) (by rw [h35]; exact cover_Area.ap K b2) (by simp only [pds, PC.pd, E.ev, B.ev, SE.ev, LE.rows, lensEv, kSl_eq, kPt_eq, ov_prop, List.getElem?_cons_zero, List.getElem?_cons_succ, List.length_map, Nat.add_zero, Nat.zero_add, Option.bind_some, Option.map_some, if_true, Subtype.eta, mxi, mni, List.map_append, List.map_cons, List.map_nil, List.cons_append, List.nil_append, List.append_nil]) rfl fun b3 => ?_
  show Sy.den F K _ _ [.int a0_0, .int a0_1, .int a0_2, .int a0_3, .int a1_0, .int a1_1, .int a1_2, .int a1_3, .int a2_0, .int a2_1, .int a2_2, .int a2_3, .bool b0, .int b1.1, .int b1.2.1, .int b1.2.2.1, .int b1.2.2.2, .lst 4 (b2.map rw_iiii.en), .int b3] = _
  refine den_ask (ps := [.int a0_0, .int a0_1, .int a0_2, .int a0_3]) (rr := gatherumlaw49_area.rr) (G := gatherumlaw49_area.f a0_0 a0_1 a0_2 a0_3) (by rw [h38]; exact gatherumlaw49_area.ap a0_0 a0_1 a0_2 a0_3) rfl rfl fun b4 => ?_
  show Sy.den F K _ _ [.int a0_0, .int a0_1, .int a0_2, .int a0_3, .int a1_0, .int a1_1, .int a1_2, .int a1_3, .int a2_0, .int a2_1, .int a2_2, .int a2_3, .bool b0, .int b1.1, .int b1.2.1, .int b1.2.2.1, .int b1.2.2.2, .lst 4 (b2.map rw_iiii.en), .int b3, .int b4] = _
  refine den_ask (ps := [.int a1_0, .int a1_1, .int a1_2, .int a1_3]) (rr := gatherumlaw49_area.rr) (G := gatherumlaw49_area.f a1_0 a1_1 a1_2 a1_3) (by rw [h38]; exact gatherumlaw49_area.ap a1_0 a1_1 a1_2 a1_3) rfl rfl fun b5 => ?_
  show Sy.den F K _ _ [.int a0_0, .int a0_1, .int a0_2, .int a0_3, .int a1_0, .int a1_1, .int a1_2, .int a1_3, .int a2_0, .int a2_1, .int a2_2, .int a2_3, .bool b0, .int b1.1, .int b1.2.1, .int b1.2.2.1, .int b1.2.2.2, .lst 4 (b2.map rw_iiii.en), .int b3, .int b4, .int b5] = _
  refine den_ask (ps := [.int b1.1, .int b1.2.1, .int b1.2.2.1, .int b1.2.2.2]) (rr := gatherumlaw49_area.rr) (G := gatherumlaw49_area.f b1.1 b1.2.1 b1.2.2.1 b1.2.2.2) (by rw [h38]; exact gatherumlaw49_area.ap b1.1 b1.2.1 b1.2.2.1 b1.2.2.2) rfl rfl fun b6 => ?_
  show Sy.den F K _ _ [.int a0_0, .int a0_1, .int a0_2, .int a0_3, .int a1_0, .int a1_1, .int a1_2, .int a1_3, .int a2_0, .int a2_1, .int a2_2, .int a2_3, .bool b0, .int b1.1, .int b1.2.1, .int b1.2.2.1, .int b1.2.2.2, .lst 4 (b2.map rw_iiii.en), .int b3, .int b4, .int b5, .int b6] = _
  refine den_ite (b := (!(b3 == (wrap64 ((wrap64 (b4 + b5)) - b6))))) rfl ?_ ?_
  exact den_ret rfl
  refine den_ask (ps := [.int 2, .lst 4 (b2.map rw_iiii.en)]) (rr := cover_Often.rr) (G := cover_Often.f K 2 b2) (by rw [h37]; exact cover_Often.ap K 2 b2) (by simp only [pds, PC.pd, E.ev, B.ev, SE.ev, LE.rows, lensEv, kSl_eq, kPt_eq, ov_prop, List.getElem?_cons_zero, List.getElem?_cons_succ, List.length_map, Nat.add_zero, Nat.zero_add, Option.bind_some, Option.map_some, if_true, Subtype.eta, mxi, mni, List.map_append, List.map_cons, List.map_nil, List.cons_append, List.nil_append, List.append_nil]) rfl fun b7 => ?_
  show Sy.den F K _ _ [.int a0_0, .int a0_1, .int a0_2, .int a0_3, .int a1_0, .int a1_1, .int a1_2, .int a1_3, .int a2_0, .int a2_1, .int a2_2, .int a2_3, .bool b0, .int b1.1, .int b1.2.1, .int b1.2.2.1, .int b1.2.2.2, .lst 4 (b2.map rw_iiii.en), .int b3, .int b4, .int b5, .int b6, .int b7] = _
  refine den_ite (b := (!(b7 == b6))) rfl ?_ ?_
  exact den_ret rfl
  refine den_ask (ps := [.int a0_0, .int a0_1, .int a0_2, .int a0_3, .int a0_0, .int a0_1, .int a0_2, .int a0_3]) (rr := rwL 37 4 rw_iiii rfl) (G := xmk [(a0_0, a0_1, a0_2, a0_3), (a0_0, a0_1, a0_2, a0_3)]) (by rw [h4002372]; exact xmk_ap 37 4 rw_iiii rfl (by decide) [(a0_0, a0_1, a0_2, a0_3), (a0_0, a0_1, a0_2, a0_3)] rfl) rfl rfl fun b8 => ?_
  show Sy.den F K _ _ [.int a0_0, .int a0_1, .int a0_2, .int a0_3, .int a1_0, .int a1_1, .int a1_2, .int a1_3, .int a2_0, .int a2_1, .int a2_2, .int a2_3, .bool b0, .int b1.1, .int b1.2.1, .int b1.2.2.1, .int b1.2.2.2, .lst 4 (b2.map rw_iiii.en), .int b3, .int b4, .int b5, .int b6, .int b7, .lst 4 (b8.map rw_iiii.en)] = _
  refine den_ask (ps := [.lst 4 (b8.map rw_iiii.en)]) (rr := cover_Area.rr) (G := cover_Area.f K b8) (by rw [h35]; exact cover_Area.ap K b8) (by simp only [pds, PC.pd, E.ev, B.ev, SE.ev, LE.rows, lensEv, kSl_eq, kPt_eq, ov_prop, List.getElem?_cons_zero, List.getElem?_cons_succ, List.length_map, Nat.add_zero, Nat.zero_add, Option.bind_some, Option.map_some, if_true, Subtype.eta, mxi, mni, List.map_append, List.map_cons, List.map_nil, List.cons_append, List.nil_append, List.append_nil]) rfl fun b9 => ?_
  show Sy.den F K _ _ [.int a0_0, .int a0_1, .int a0_2, .int a0_3, .int a1_0, .int a1_1, .int a1_2, .int a1_3, .int a2_0, .int a2_1, .int a2_2, .int a2_3, .bool b0, .int b1.1, .int b1.2.1, .int b1.2.2.1, .int b1.2.2.2, .lst 4 (b2.map rw_iiii.en), .int b3, .int b4, .int b5, .int b6, .int b7, .lst 4 (b8.map rw_iiii.en), .int b9] = _
  refine den_ite (b := (!(b9 == b4))) rfl ?_ ?_
  exact den_ret rfl
  refine den_ask (ps := [.int a0_0, .int a0_1, .int a0_2, .int a0_3, .int a1_0, .int a1_1, .int a1_2, .int a1_3, .int a2_0, .int a2_1, .int a2_2, .int a2_3]) (rr := rwL 37 4 rw_iiii rfl) (G := xmk [(a0_0, a0_1, a0_2, a0_3), (a1_0, a1_1, a1_2, a1_3), (a2_0, a2_1, a2_2, a2_3)]) (by rw [h4002372]; exact xmk_ap 37 4 rw_iiii rfl (by decide) [(a0_0, a0_1, a0_2, a0_3), (a1_0, a1_1, a1_2, a1_3), (a2_0, a2_1, a2_2, a2_3)] rfl) rfl rfl fun b10 => ?_
  show Sy.den F K _ _ [.int a0_0, .int a0_1, .int a0_2, .int a0_3, .int a1_0, .int a1_1, .int a1_2, .int a1_3, .int a2_0, .int a2_1, .int a2_2, .int a2_3, .bool b0, .int b1.1, .int b1.2.1, .int b1.2.2.1, .int b1.2.2.2, .lst 4 (b2.map rw_iiii.en), .int b3, .int b4, .int b5, .int b6, .int b7, .lst 4 (b8.map rw_iiii.en), .int b9, .lst 4 (b10.map rw_iiii.en)] = _
  refine den_ask (ps := [.lst 4 (b10.map rw_iiii.en)]) (rr := cover_Area.rr) (G := cover_Area.f K b10) (by rw [h35]; exact cover_Area.ap K b10) (by simp only [pds, PC.pd, E.ev, B.ev, SE.ev, LE.rows, lensEv, kSl_eq, kPt_eq, ov_prop, List.getElem?_cons_zero, List.getElem?_cons_succ, List.length_map, Nat.add_zero, Nat.zero_add, Option.bind_some, Option.map_some, if_true, Subtype.eta, mxi, mni, List.map_append, List.map_cons, List.map_nil, List.cons_append, List.nil_append, List.append_nil]) rfl fun b11 => ?_
  show Sy.den F K _ _ [.int a0_0, .int a0_1, .int a0_2, .int a0_3, .int a1_0, .int a1_1, .int a1_2, .int a1_3, .int a2_0, .int a2_1, .int a2_2, .int a2_3, .bool b0, .int b1.1, .int b1.2.1, .int b1.2.2.1, .int b1.2.2.2, .lst 4 (b2.map rw_iiii.en), .int b3, .int b4, .int b5, .int b6, .int b7, .lst 4 (b8.map rw_iiii.en), .int b9, .lst 4 (b10.map rw_iiii.en), .int b11] = _
  refine den_ask (ps := [.int a2_0, .int a2_1, .int a2_2, .int a2_3, .int a0_0, .int a0_1, .int a0_2, .int a0_3, .int a1_0, .int a1_1, .int a1_2, .int a1_3]) (rr := rwL 37 4 rw_iiii rfl) (G := xmk [(a2_0, a2_1, a2_2, a2_3), (a0_0, a0_1, a0_2, a0_3), (a1_0, a1_1, a1_2, a1_3)]) (by rw [h4002372]; exact xmk_ap 37 4 rw_iiii rfl (by decide) [(a2_0, a2_1, a2_2, a2_3), (a0_0, a0_1, a0_2, a0_3), (a1_0, a1_1, a1_2, a1_3)] rfl) rfl rfl fun b12 => ?_
  show Sy.den F K _ _ [.int a0_0, .int a0_1, .int a0_2, .int a0_3, .int a1_0, .int a1_1, .int a1_2, .int a1_3, .int a2_0, .int a2_1, .int a2_2, .int a2_3, .bool b0, .int b1.1, .int b1.2.1, .int b1.2.2.1, .int b1.2.2.2, .lst 4 (b2.map rw_iiii.en), .int b3, .int b4, .int b5, .int b6, .int b7, .lst 4 (b8.map rw_iiii.en), .int b9, .lst 4 (b10.map rw_iiii.en), .int b11, .lst 4 (b12.map rw_iiii.en)] = _
  refine den_ask (ps := [.lst 4 (b12.map rw_iiii.en)]) (rr := cover_Area.rr) (G := cover_Area.f K b12) (by rw [h35]; exact cover_Area.ap K b12) (by simp only [pds, PC.pd, E.ev, B.ev, SE.ev, LE.rows, lensEv, kSl_eq, kPt_eq, ov_prop, List.getElem?_cons_zero, List.getElem?_cons_succ, List.length_map, Nat.add_zero, Nat.zero_add, Option.bind_some, Option.map_some, if_true, Subtype.eta, mxi, mni, List.map_append, List.map_cons, List.map_nil, List.cons_append, List.nil_append, List.append_nil]) rfl fun b13 => ?_
  show Sy.den F K _ _ [.int a0_0, .int a0_1, .int a0_2, .int a0_3, .int a1_0, .int a1_1, .int a1_2, .int a1_3, .int a2_0, .int a2_1, .int a2_2, .int a2_3, .bool b0, .int b1.1, .int b1.2.1, .int b1.2.2.1, .int b1.2.2.2, .lst 4 (b2.map rw_iiii.en), .int b3, .int b4, .int b5, .int b6, .int b7, .lst 4 (b8.map rw_iiii.en), .int b9, .lst 4 (b10.map rw_iiii.en), .int b11, .lst 4 (b12.map rw_iiii.en), .int b13] = _
  refine den_ite (b := (b11 == b13)) rfl ?_ ?_
  refine den_ask (ps := [.int a2_0, .int a2_1, .int a2_2, .int a2_3]) (rr := gatherumlaw49_area.rr) (G := gatherumlaw49_area.f a2_0 a2_1 a2_2 a2_3) (by rw [h38]; exact gatherumlaw49_area.ap a2_0 a2_1 a2_2 a2_3) rfl rfl fun b14 => ?_
  show Sy.den F K _ _ [.int a0_0, .int a0_1, .int a0_2, .int a0_3, .int a1_0, .int a1_1, .int a1_2, .int a1_3, .int a2_0, .int a2_1, .int a2_2, .int a2_3, .bool b0, .int b1.1, .int b1.2.1, .int b1.2.2.1, .int b1.2.2.2, .lst 4 (b2.map rw_iiii.en), .int b3, .int b4, .int b5, .int b6, .int b7, .lst 4 (b8.map rw_iiii.en), .int b9, .lst 4 (b10.map rw_iiii.en), .int b11, .lst 4 (b12.map rw_iiii.en), .int b13, .int b14] = _
  refine den_ask (ps := [.int a0_0, .int a0_1, .int a0_2, .int a0_3, .int a2_0, .int a2_1, .int a2_2, .int a2_3]) (rr := gatherumref04_Meet.rr) (G := gatherumref04_Meet.f a0_0 a0_1 a0_2 a0_3 a2_0 a2_1 a2_2 a2_3) (by rw [h32]; exact gatherumref04_Meet.ap a0_0 a0_1 a0_2 a0_3 a2_0 a2_1 a2_2 a2_3) rfl rfl fun b15 => ?_
  show Sy.den F K _ _ [.int a0_0, .int a0_1, .int a0_2, .int a0_3, .int a1_0, .int a1_1, .int a1_2, .int a1_3, .int a2_0, .int a2_1, .int a2_2, .int a2_3, .bool b0, .int b1.1, .int b1.2.1, .int b1.2.2.1, .int b1.2.2.2, .lst 4 (b2.map rw_iiii.en), .int b3, .int b4, .int b5, .int b6, .int b7, .lst 4 (b8.map rw_iiii.en), .int b9, .lst 4 (b10.map rw_iiii.en), .int b11, .lst 4 (b12.map rw_iiii.en), .int b13, .int b14, .int b15.1, .int b15.2.1, .int b15.2.2.1, .int b15.2.2.2] = _
  refine den_ask (ps := [.int a1_0, .int a1_1, .int a1_2, .int a1_3, .int a2_0, .int a2_1, .int a2_2, .int a2_3]) (rr := gatherumref04_Meet.rr) (G := gatherumref04_Meet.f a1_0 a1_1 a1_2 a1_3 a2_0 a2_1 a2_2 a2_3) (by rw [h32]; exact gatherumref04_Meet.ap a1_0 a1_1 a1_2 a1_3 a2_0 a2_1 a2_2 a2_3) rfl rfl fun b16 => ?_
  show Sy.den F K _ _ [.int a0_0, .int a0_1, .int a0_2, .int a0_3, .int a1_0, .int a1_1, .int a1_2, .int a1_3, .int a2_0, .int a2_1, .int a2_2, .int a2_3, .bool b0, .int b1.1, .int b1.2.1, .int b1.2.2.1, .int b1.2.2.2, .lst 4 (b2.map rw_iiii.en), .int b3, .int b4, .int b5, .int b6, .int b7, .lst 4 (b8.map rw_iiii.en), .int b9, .lst 4 (b10.map rw_iiii.en), .int b11, .lst 4 (b12.map rw_iiii.en), .int b13, .int b14, .int b15.1, .int b15.2.1, .int b15.2.2.1, .int b15.2.2.2, .int b16.1, .int b16.2.1, .int b16.2.2.1, .int b16.2.2.2] = _
  refine den_ask (ps := [.int b15.1, .int b15.2.1, .int b15.2.2.1, .int b15.2.2.2, .int b16.1, .int b16.2.1, .int b16.2.2.1, .int b16.2.2.2]) (rr := rwL 37 4 rw_iiii rfl) (G := xmk [(b15.1, b15.2.1, b15.2.2.1, b15.2.2.2), (b16.1, b16.2.1, b16.2.2.1, b16.2.2.2)]) (by rw [h4002372]; exact xmk_ap 37 4 rw_iiii rfl (by decide) [(b15.1, b15.2.1, b15.2.2.1, b15.2.2.2), (b16.1, b16.2.1, b16.2.2.1, b16.2.2.2)] rfl) rfl rfl fun b17 => ?_
  show Sy.den F K _ _ [.int a0_0, .int a0_1, .int a0_2, .int a0_3, .int a1_0, .int a1_1, .int a1_2, .int a1_3, .int a2_0, .int a2_1, .int a2_2, .int a2_3, .bool b0, .int b1.1, .int b1.2.1, .int b1.2.2.1, .int b1.2.2.2, .lst 4 (b2.map rw_iiii.en), .int b3, .int b4, .int b5, .int b6, .int b7, .lst 4 (b8.map rw_iiii.en), .int b9, .lst 4 (b10.map rw_iiii.en), .int b11, .lst 4 (b12.map rw_iiii.en), .int b13, .int b14, .int b15.1, .int b15.2.1, .int b15.2.2.1, .int b15.2.2.2, .int b16.1, .int b16.2.1, .int b16.2.2.1, .int b16.2.2.2, .lst 4 (b17.map rw_iiii.en)] = _
  refine den_ask (ps := [.lst 4 (b17.map rw_iiii.en)]) (rr := cover_Area.rr) (G := cover_Area.f K b17) (by rw [h35]; exact cover_Area.ap K b17) (by simp only [pds, PC.pd, E.ev, B.ev, SE.ev, LE.rows, lensEv, kSl_eq, kPt_eq, ov_prop, List.getElem?_cons_zero, List.getElem?_cons_succ, List.length_map, Nat.add_zero, Nat.zero_add, Option.bind_some, Option.map_some, if_true, Subtype.eta, mxi, mni, List.map_append, List.map_cons, List.map_nil, List.cons_append, List.nil_append, List.append_nil]) rfl fun b18 => ?_
  show Sy.den F K _ _ [.int a0_0, .int a0_1, .int a0_2, .int a0_3, .int a1_0, .int a1_1, .int a1_2, .int a1_3, .int a2_0, .int a2_1, .int a2_2, .int a2_3, .bool b0, .int b1.1, .int b1.2.1, .int b1.2.2.1, .int b1.2.2.2, .lst 4 (b2.map rw_iiii.en), .int b3, .int b4, .int b5, .int b6, .int b7, .lst 4 (b8.map rw_iiii.en), .int b9, .lst 4 (b10.map rw_iiii.en), .int b11, .lst 4 (b12.map rw_iiii.en), .int b13, .int b14, .int b15.1, .int b15.2.1, .int b15.2.2.1, .int b15.2.2.2, .int b16.1, .int b16.2.1, .int b16.2.2.1, .int b16.2.2.2, .lst 4 (b17.map rw_iiii.en), .int b18] = _
  exact den_ret rfl
  exact den_ret rfl
theorem gatherumlaw49_CoverJoins.ok (F : FnE) (K : Nat) (h32 : F 32 = gatherumref04_Meet.app) (h33 : F 33 = gatherumlaw49_alive.app K) (h35 : F 35 = cover_Area.app K) (h37 : F 37 = cover_Often.app K) (h38 : F 38 = gatherumlaw49_area.app) (h4002372 : F 4002372 = (mkApp 4)) (ps r : List PD) (h : gatherumlaw49_CoverJoins.app K ps = some r) : Sy.den F K gatherumlaw49_CoverJoins.t [] ps = some r := by
  obtain ⟨a, rfl, h2⟩ := app_ok (ra := gatherumlaw49_CoverJoins.ra) (rr := gatherumlaw49_CoverJoins.rr) (f := fun x => gatherumlaw49_CoverJoins.f K x.1 x.2.1 x.2.2.1 x.2.2.2.1 x.2.2.2.2.1 x.2.2.2.2.2.1 x.2.2.2.2.2.2.1 x.2.2.2.2.2.2.2.1 x.2.2.2.2.2.2.2.2.1 x.2.2.2.2.2.2.2.2.2.1 x.2.2.2.2.2.2.2.2.2.2.1 x.2.2.2.2.2.2.2.2.2.2.2) h
  rw [← h2]
  exact gatherumlaw49_CoverJoins.den F K h32 h33 h35 h37 h38 h4002372 (a.1) (a.2.1) (a.2.2.1) (a.2.2.2.1) (a.2.2.2.2.1) (a.2.2.2.2.2.1) (a.2.2.2.2.2.2.1) (a.2.2.2.2.2.2.2.1) (a.2.2.2.2.2.2.2.2.1) (a.2.2.2.2.2.2.2.2.2.1) (a.2.2.2.2.2.2.2.2.2.2.1) (a.2.2.2.2.2.2.2.2.2.2.2)
theorem gatherumlaw49_CoverJoins.calls (K : Nat) (a0_0 : Int) (a0_1 : Int) (a0_2 : Int) (a0_3 : Int) (a1_0 : Int) (a1_1 : Int) (a1_2 : Int) (a1_3 : Int) (a2_0 : Int) (a2_1 : Int) (a2_2 : Int) (a2_3 : Int) (w : World) (S : Nat → Prop) (hS : ∀ b, S b → b < w.heap.size) (vals : List Value) (hv : RepArgs w S gatherumlaw49_CoverJoins.sg [.int a0_0, .int a0_1, .int a0_2, .int a0_3, .int a1_0, .int a1_1, .int a1_2, .int a1_3, .int a2_0, .int a2_1, .int a2_2, .int a2_3] vals) (h : gatherumlaw49_CoverJoins.f K a0_0 a0_1 a0_2 a0_3 a1_0 a1_1 a1_2 a1_3 a2_0 a2_1 a2_2 a2_3 = some true) :
    Calls Try.prog 10 vals.toArray w fun e w' => e = .returned (.bool true) ∧ Below w.heap.size w w' := by
  refine (fn_callsD (r := [.bool true]) gatherumlaw49_CoverJoins.is rfl (by decide +kernel) envOk relOk relNp mix (exts_ok rfl rfl rfl rfl rfl rfl rfl rfl rfl rfl rfl rfl) (gd38 K) (Den_of_den _ [] [] _ (fun d j hj => by simp at hj) (by rw [gatherumlaw49_CoverJoins.den _ K rfl rfl rfl rfl rfl rfl, h]; rfl)) hS hv).mono fun e w' he => ?_
  cases e with
  | returned u => exact ⟨by rw [bool_ans he.1], he.2⟩
  | panicked c => exact he.elim
  | outgrown => exact he.elim
end Go.Proofs.Ytpicoedbkeljoaa.XCoverJoins
