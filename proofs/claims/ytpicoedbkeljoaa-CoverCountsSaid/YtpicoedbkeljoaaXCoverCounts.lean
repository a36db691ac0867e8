/- What the functions of the law CoverCounts compute: written by sygen.py from the executor's answers. -/
import Derived.Test.YtpicoedbkeljoaaHc
import Derived.Test.YtpicoedbkeljoaaHv3
import Derived.Test.YtpicoedbkeljoaaHi
import Derived.Test.YtpicoedbkeljoaaSyB
import Derived.Test.YtpicoedbkeljoaaProg
import Derived.KernelRfl
set_option linter.unusedVariables false
set_option linter.unusedSimpArgs false
set_option maxRecDepth 100000
set_option maxHeartbeats 4000000
namespace Go.Proofs.Ytpicoedbkeljoaa.XCoverCounts
open Go Go.RowKit Go.Proofs Go.Proofs.Ytpicoedbkeljoaa.Sy
noncomputable def cap17592186044416 : Int := 17592186044416
noncomputable def cap4398046511104 : Int := 4398046511104
noncomputable def cap8796093022208 : Int := 8796093022208
noncomputable def ty3 : TD := ⟨(TypeDesc.int IntKind.i64), (.int .i64 0), 1, 8⟩
noncomputable def ty4 : TD := ⟨TypeDesc.bool, (.bool false), 1, 1⟩
noncomputable def ty24 : TD := ⟨(TypeDesc.slice 3), (.slice none 0 0), 1, 24⟩
noncomputable def ty37 : TD := ⟨(TypeDesc.struct #[{ name := "X0", type := 3, offset := 0, embedded := false, tag := "", pkgPath := "", byteOffset := 0 }, { name := "Y0", type := 3, offset := 1, embedded := false, tag := "", pkgPath := "", byteOffset := 8 }, { name := "X1", type := 3, offset := 2, embedded := false, tag := "", pkgPath := "", byteOffset := 16 }, { name := "Y1", type := 3, offset := 3, embedded := false, tag := "", pkgPath := "", byteOffset := 24 }]), (.agg #[.int .i64 0, .int .i64 0, .int .i64 0, .int .i64 0]), 4, 32⟩
noncomputable def ty38 : TD := ⟨(TypeDesc.slice 37), (.slice none 0 0), 1, 24⟩
noncomputable def ty97 : TD := ⟨(TypeDesc.slice 99), (.slice none 0 0), 1, 24⟩
noncomputable def ty99 : TD := ⟨(TypeDesc.struct #[{ name := "at", type := 3, offset := 0, embedded := false, tag := "", pkgPath := "gatherum/cover", byteOffset := 0 }, { name := "by", type := 3, offset := 1, embedded := false, tag := "", pkgPath := "gatherum/cover", byteOffset := 8 }]), (.agg #[.int .i64 0, .int .i64 0]), 2, 16⟩
noncomputable def tys : List (Nat × TD) := [(3, ty3), (4, ty4), (24, ty24), (37, ty37), (38, ty38), (97, ty97), (99, ty99)]
noncomputable def flats : List Nat := [37, 99]
noncomputable def kds : List (Nat × List K4) := [(3, [.i]), (4, [.b]), (24, [(.l 3 1)]), (37, [.i, .i, .i, .i]), (38, [(.l 37 4)]), (97, [(.l 99 2)]), (99, [.i, .i])]
noncomputable def fns : List (Nat × List S1 × Sh) := [(45, [(.agg [.i, .i, .i, .i])], (.one (.one .b))), (57, [(.one (.l 37 4))], (.one (.one (.l 3 1)))), (69, [(.agg [.i, .i]), (.agg [.i, .i])], (.one (.one .i))), (58, [(.one .i), (.one (.l 37 4))], (.one (.one .i))), (37, [(.one .i), (.one (.l 37 4))], (.one (.one .i))), (35, [(.one (.l 37 4))], (.one (.one .i))), (33, [], (.one (.one .b))), (54, [(.one .i), (.one .i), (.one .i)], (.one (.one .b))), (34, [(.one (.l 37 4))], (.one (.one .b))), (36, [(.one .i), (.one (.l 37 4))], (.one (.one .i))), (9, [(.one (.l 37 4)), (.one .i)], (.one (.one .b)))]
noncomputable def env : Env := ⟨tys, eqsOf tys flats flats, kds, fns⟩
noncomputable def tab2 : List (Nat × O2E) := [(67, ⟨1000006, 3, 1, []⟩), (55, ⟨1000007, 37, 4, [45]⟩)]
noncomputable def tab : List (Nat × OwE) := [(41, ⟨false, PCLI, 3, 1, [], 1⟩), (42, ⟨true, PSTI, 3, 1, [], 1⟩), (56, ⟨false, 1001037, 37, 4, [], 4⟩), (68, ⟨true, 1000005, 99, 2, [69], 2⟩), (61, ⟨false, 1000008, 37, 4, [], 1⟩)]
noncomputable def stab : List (Nat × Nat) := []
noncomputable def exts (n : Nat) : Ext := orExt noExt (orExt (subExt env n) (orExt (owExt n tab) (orExt (o2Ext n tab2) (setExt env n stab))))
noncomputable def rel : List (Nat × RelE) := []
theorem tysOk : TysOk Try.prog tys := (tys_cons (tys_cons (tys_cons (tys_cons (tys_cons (tys_cons (tys_cons tys_nil (t := 99) (td := ty99) Try.underlying99 (by kernel_rfl)) (t := 97) (td := ty97) Try.underlying97 (by kernel_rfl)) (t := 38) (td := ty38) Try.underlying38 (by kernel_rfl)) (t := 37) (td := ty37) Try.underlying37 (by kernel_rfl)) (t := 24) (td := ty24) Try.underlying24 (by kernel_rfl)) (t := 4) (td := ty4) Try.underlying4 (by kernel_rfl)) (t := 3) (td := ty3) Try.underlying3 (by kernel_rfl))
theorem flatOk : FlatOk Try.prog flats := (flat_cons (flat_cons flat_nil (t := 99) (by kernel_rfl) (by kernel_rfl)) (t := 37) (by kernel_rfl) (by kernel_rfl))
theorem envOk : EnvOk Try.prog env := env_ok tysOk flatOk kds fns
theorem mix : Try.prog.follows .mixedOrders = true := by kernel_rfl
theorem relOk : GoodR Try.prog rel := goodR_nil
theorem relNp : RelNoPt rel := relNoPt_nil
noncomputable def l0 (K : Nat) : List (Nat × App) := [(1000001, subApp), (1000002, cliApp), (1000003, stiApp), (1000004, getApp), (1000005, Hv.sfApp), (1000006, Hv.coApp), (1000007, Hv.dfApp), (1000008, Hv.ccApp), (1001037, (cloApp 32 4))]
theorem gd0 (K : Nat) : Sy.Good Try.prog fns (mkF (l0 K)) := (good_ps (by kernel_rfl) (good_ps (by kernel_rfl) (good_ps (by kernel_rfl) (good_ps (by kernel_rfl) (good_ps (by kernel_rfl) (good_ps (by kernel_rfl) (good_ps (by kernel_rfl) (good_ps (by kernel_rfl) (good_ps (by kernel_rfl) good_nil (cloApp 32 4)) Hv.ccApp) Hv.dfApp) Hv.coApp) Hv.sfApp) getApp) stiApp) cliApp) subApp)
theorem exts_ok {F : FnE} {n : Nat} (h1000001 : F 1000001 = subApp) (h1000002 : F 1000002 = cliApp) (h1000003 : F 1000003 = stiApp) (h1000004 : F 1000004 = getApp) (h1000005 : F 1000005 = Hv.sfApp) (h1000006 : F 1000006 = Hv.coApp) (h1000007 : F 1000007 = Hv.dfApp) (h1000008 : F 1000008 = Hv.ccApp) (h1001037 : F 1001037 = (cloApp 32 4)) : ExtOk Try.prog F n (exts n) := orExt_ok noExt_ok (orExt_ok (subExt_ok envOk h1000001) (orExt_ok (owExt_ok (owOk_cons (by simpa [pclo] using Go.Proofs.Ytpicoedbkeljoaa.Hi.clone_ok h1000002) (owOk_cons (by simpa [pclo] using Go.Proofs.Ytpicoedbkeljoaa.Hi.sort_ok h1000003) (owOk_cons (by simpa [pclo] using Go.Proofs.Ytpicoedbkeljoaa.Hc.clone56_ok h1001037) (owOk_cons (by simpa [pclo] using Go.Proofs.Ytpicoedbkeljoaa.Hv.sortF_ok h1000005) (owOk_cons (by simpa [pclo] using Go.Proofs.Ytpicoedbkeljoaa.Hv.concat_ok h1000008) owOk_nil)))))) (orExt_ok (o2Ext_ok (o2Ok_cons (by simpa using Go.Proofs.Ytpicoedbkeljoaa.Hv.compact_ok h1000006) (o2Ok_cons (by simpa using Go.Proofs.Ytpicoedbkeljoaa.Hv.del_ok h1000007) o2Ok_nil))) (setExt_ok envOk mem_zero))))
noncomputable def kSl : Ov := ⟨.slice none 0 0, rfl⟩
theorem kSl_eq : Value.slice none 0 0 = kSl.1 := rfl
noncomputable def kPt : Ov := ⟨.pointer none, rfl⟩
theorem kPt_eq : Value.pointer none = kPt.1 := rfl
noncomputable def rw_iiii : Rw (Int × Int × Int × Int) := (rwP rwI (rwP rwI (rwP rwI rwI)))
theorem rw_iiii_en (r : Int × Int × Int × Int) : rw_iiii.en r = [.int r.1, .int r.2.1, .int r.2.2.1, .int r.2.2.2] := rfl
theorem rw_iiii_one (r0 : Int) (r1 : Int) (r2 : Int) (r3 : Int) : ([[.int r0, .int r1, .int r2, .int r3]] : List (List PD)) = [(r0, r1, r2, r3)].map rw_iiii.en := rfl
theorem rw_iiii_cons (r0 : Int) (r1 : Int) (r2 : Int) (r3 : Int) (l : List (Int × Int × Int × Int)) : ([.int r0, .int r1, .int r2, .int r3] :: l.map rw_iiii.en : List (List PD)) = ((r0, r1, r2, r3) :: l).map rw_iiii.en := rfl
theorem rw_iiii_nil : (PD.lst 4 [] : PD) = PD.lst 4 (([] : List (Int × Int × Int × Int)).map rw_iiii.en) := rfl
noncomputable def rw_i : Rw (Int) := rwI
theorem rw_i_en (r : Int) : rw_i.en r = [.int r] := rfl
theorem rw_i_one (r0 : Int) : ([[.int r0]] : List (List PD)) = [(r0)].map rw_i.en := rfl
theorem rw_i_cons (r0 : Int) (l : List (Int)) : ([.int r0] :: l.map rw_i.en : List (List PD)) = ((r0) :: l).map rw_i.en := rfl
theorem rw_i_nil : (PD.lst 1 [] : PD) = PD.lst 1 (([] : List (Int)).map rw_i.en) := rfl
noncomputable def rw_ii : Rw (Int × Int) := (rwP rwI rwI)
theorem rw_ii_en (r : Int × Int) : rw_ii.en r = [.int r.1, .int r.2] := rfl
theorem rw_ii_one (r0 : Int) (r1 : Int) : ([[.int r0, .int r1]] : List (List PD)) = [(r0, r1)].map rw_ii.en := rfl
theorem rw_ii_cons (r0 : Int) (r1 : Int) (l : List (Int × Int)) : ([.int r0, .int r1] :: l.map rw_ii.en : List (List PD)) = ((r0, r1) :: l).map rw_ii.en := rfl
theorem rw_ii_nil : (PD.lst 2 [] : PD) = PD.lst 2 (([] : List (Int × Int)).map rw_ii.en) := rfl
theorem den_ite {F : FnE} {K : Nat} {c : B} {x y : Tree} {Js : List (List PD → Option (List PD))} {ρ : List PD} {b : Bool} {α : Type} {X Y : Option α} {g : α → List PD} (hc : c.ev ρ = some b) (hx : Sy.den F K x Js ρ = X.map g) (hy : Sy.den F K y Js ρ = Y.map g) : Sy.den F K (.ite c x y) Js ρ = (if b = true then X else Y).map g := by
  rw [Sy.den, hc, Option.bind_some]; cases b
  · exact hy
  · exact hx
theorem den_ask {F : FnE} {K f : Nat} {args : List PC} {ks : List K4} {k : Tree} {Js : List (List PD → Option (List PD))} {ρ ps : List PD} {α β : Type} {G : Option β} {X : β → Option α} {g : α → List PD} {rr : Rw β} (ha : F f ps = G.map rr.en) (hp : pds ρ args = some ps) (hk : rr.ks = ks) (h : ∀ b, Sy.den F K k Js (ρ ++ rr.en b) = (X b).map g) : Sy.den F K (.ask f args ks k) Js ρ = (G.bind X).map g := by
  rw [Sy.den, hp, Option.bind_some, ha]
  cases G with
  | none => rfl
  | some b => subst hk; simp only [Option.map_some, Option.bind_some, rr.hok, if_true]; exact h b
theorem den_get {F : FnE} {K l sz : Nat} {i : E} {ks : List K4} {k : Tree} {Js : List (List PD → Option (List PD))} {ρ : List PD} {α β : Type} {L : List β} {X : β → Option α} {g : α → List PD} {rw : Rw β} {iv : Int} (hl : ρ[l]? = some (.lst sz (L.map rw.en))) (hi : i.ev ρ = some iv) (hk : rw.ks = ks) (h : ∀ b, Sy.den F K k Js (ρ ++ rw.en b) = (X b).map g) : Sy.den F K (.get l i ks k) Js ρ = ((L[iv.toNat]?).bind X).map g := by
  rw [Sy.den, hl]
  simp only [hi, Option.bind_some, List.getElem?_map]
  cases L[iv.toNat]? with
  | none => rfl
  | some b => subst hk; simp only [Option.map_some, Option.bind_some, rw.hok, if_true]; exact h b
theorem den_fix {F : FnE} {K sz : Nat} {L : LE} {k : Tree} {Js : List (List PD → Option (List PD))} {ρ : List PD} {α : Type} {rows : List (List PD)} {X : Option α} {g : α → List PD} (hL : LE.rows ρ L = some rows) (h : Sy.den F K k Js (ρ ++ [.lst sz rows]) = X.map g) : Sy.den F K (.fix L sz k) Js ρ = X.map g := by
  rw [Sy.den, hL]; exact h
theorem den_loop {F : FnE} {K : Nat} {args : List PC} {ks : List K4} {body : Tree} {Js : List (List PD → Option (List PD))} {ρ vs : List PD} {α : Type} {X : Option α} {g : α → List PD} (hp : pds ρ args = some vs) (h : iterF (fun J ρ' => Sy.den F K body (J :: Js) ρ') K (ρ ++ vs) = X.map g) : Sy.den F K (.loop args ks body) Js ρ = X.map g := by
  rw [Sy.den, hp]; exact h
theorem den_back {F : FnE} {K d p0 : Nat} {args : List PC} {Js : List (List PD → Option (List PD))} {ρ vs : List PD} {α : Type} {X : Option α} {g : α → List PD} {J : List PD → Option (List PD)} (hp : pds ρ args = some vs) (hJ : Js[d]? = some J) (h : J (ρ.take p0 ++ vs) = X.map g) : Sy.den F K (.back d p0 args) Js ρ = X.map g := by
  rw [Sy.den, hp, Option.bind_some, hJ]; exact h
theorem dens_ite {F : FnE} {c : B} {x y : Tree} {sup : List Ov} {ρ : List PD} {b : Bool} {α : Type} {X Y : Option α} {g : α → List PD} (hc : c.ev ρ = some b) (hx : Sy.denS F x ρ sup = X.map g) (hy : Sy.denS F y ρ sup = Y.map g) : Sy.denS F (.ite c x y) ρ sup = (if b = true then X else Y).map g := by
  rw [Sy.denS, hc, Option.bind_some]; cases b
  · exact hy
  · exact hx
theorem dens_ask {F : FnE} {f : Nat} {args : List PC} {ks : List K4} {k : Tree} {sup : List Ov} {ρ ps : List PD} {α β : Type} {G : Option β} {X : β → Option α} {g : α → List PD} {rr : Rw β} (ha : F f ps = G.map rr.en) (hp : pds ρ args = some ps) (hk : rr.ks = ks) (h : ∀ b, Sy.denS F k (ρ ++ rr.en b) sup = (X b).map g) : Sy.denS F (.ask f args ks k) ρ sup = (G.bind X).map g := by
  rw [Sy.denS, hp, Option.bind_some, ha]
  cases G with
  | none => rfl
  | some b => subst hk; simp only [Option.map_some, Option.bind_some, rr.hok, if_true]; exact h b
theorem dens_get {F : FnE} {l sz : Nat} {i : E} {ks : List K4} {k : Tree} {sup : List Ov} {ρ : List PD} {α β : Type} {L : List β} {X : β → Option α} {g : α → List PD} {rw : Rw β} {iv : Int} (hl : ρ[l]? = some (.lst sz (L.map rw.en))) (hi : i.ev ρ = some iv) (hk : rw.ks = ks) (h : ∀ b, Sy.denS F k (ρ ++ rw.en b) sup = (X b).map g) : Sy.denS F (.get l i ks k) ρ sup = ((L[iv.toNat]?).bind X).map g := by
  rw [Sy.denS, hl]
  simp only [hi, Option.bind_some, List.getElem?_map]
  cases L[iv.toNat]? with
  | none => rfl
  | some b => subst hk; simp only [Option.map_some, Option.bind_some, rw.hok, if_true]; exact h b
theorem dens_fix {F : FnE} {sz : Nat} {L : LE} {k : Tree} {sup : List Ov} {ρ : List PD} {α : Type} {rows : List (List PD)} {X : Option α} {g : α → List PD} (hL : LE.rows ρ L = some rows) (h : Sy.denS F k (ρ ++ [.lst sz rows]) sup = X.map g) : Sy.denS F (.fix L sz k) ρ sup = X.map g := by
  rw [Sy.denS, hL]; exact h
theorem dens_cst {F : FnE} {n : Nat} {k : Tree} {sup l rest : List Ov} {ρ : List PD} {α : Type} {X : Option α} {g : α → List PD} (hs : sup = l ++ rest) (hl : l.length = n) (h : Sy.denS F k (ρ ++ ovs l) rest = X.map g) : Sy.denS F (.cst n k) ρ sup = X.map g := by
  subst hs hl
  rw [Sy.denS, if_pos (by rw [List.length_append]; omega), List.take_left, List.drop_left]; exact h
theorem dens_ret {F : FnE} {l : List PC} {sup : List Ov} {ρ : List PD} {α : Type} {X : Option α} {g : α → List PD} (hp : pds ρ l = X.map g) : Sy.denS F (.ret l) ρ sup = X.map g := hp
theorem dens_bad (F : FnE) (ρ : List PD) (sup : List Ov) {α : Type} (g : α → List PD) : Sy.denS F .bad ρ sup = (none : Option α).map g := rfl
theorem den_ret {F : FnE} {K : Nat} {l : List PC} {Js : List (List PD → Option (List PD))} {ρ : List PD} {α : Type} {X : Option α} {g : α → List PD} (hp : pds ρ l = X.map g) : Sy.den F K (.ret l) Js ρ = X.map g := hp
theorem den_bad (F : FnE) (K : Nat) (Js : List (List PD → Option (List PD))) (ρ : List PD) {α : Type} (g : α → List PD) : Sy.den F K .bad Js ρ = (none : Option α).map g := rfl
/-! ### box_Empty: function 45 -/
noncomputable def box_Empty.body : Code := Try.f45.body.getD .skip
noncomputable def box_Empty.sg : List S1 := [(.agg [.i, .i, .i, .i])]
noncomputable def box_Empty.sh : Sh := (.one (.one .b))
noncomputable def box_Empty.cf : Cfg := ⟨env, Try.f45.ntmps, Try.f45.results.toList, some box_Empty.sh, rel, [], [], (exts Try.f45.ntmps)⟩
noncomputable def box_Empty.t : Tree := (.ite (.le (.va 2) (.va 0)) (.ret [(.bo (.co true))]) (.ret [(.bo (.le (.va 3) (.va 1)))]))
noncomputable def box_Empty.ra : Rw (Int × Int × Int × Int) := (rwP rwI (rwP rwI (rwP rwI rwI)))
noncomputable def box_Empty.rr : Rw (Bool) := rwB
theorem box_Empty.rr_en (r : Bool) : box_Empty.rr.en r = [.bool r] := rfl
noncomputable def box_Empty.f (a0_0 : Int) (a0_1 : Int) (a0_2 : Int) (a0_3 : Int) : Option (Bool) := (if (decide (a0_2 ≤ a0_0)) = true then some true else some (decide (a0_3 ≤ a0_1)))
noncomputable def box_Empty.app : App := fun ps => (box_Empty.ra.de ps).bind fun x => (box_Empty.f x.1 x.2.1 x.2.2.1 x.2.2.2).map box_Empty.rr.en
theorem box_Empty.ap (a0_0 : Int) (a0_1 : Int) (a0_2 : Int) (a0_3 : Int) : box_Empty.app [.int a0_0, .int a0_1, .int a0_2, .int a0_3] = (box_Empty.f a0_0 a0_1 a0_2 a0_3).map box_Empty.rr.en := app_ap box_Empty.ra box_Empty.rr (fun x => box_Empty.f x.1 x.2.1 x.2.2.1 x.2.2.2) (a0_0, a0_1, a0_2, a0_3)
theorem box_Empty.is : FnIs Try.prog 45 (.init box_Empty.sg) box_Empty.t box_Empty.cf := ⟨Try.f45, box_Empty.body, 6000, Try.func45, by kernel_rfl, rfl, rfl, by decide +kernel, by kernel_rfl⟩
theorem box_Empty.den (F : FnE) (K : Nat) (a0_0 : Int) (a0_1 : Int) (a0_2 : Int) (a0_3 : Int) : Sy.den F K box_Empty.t [] [.int a0_0, .int a0_1, .int a0_2, .int a0_3] = (box_Empty.f a0_0 a0_1 a0_2 a0_3).map box_Empty.rr.en := by
  unfold box_Empty.t box_Empty.f
  refine den_ite (b := (decide (a0_2 ≤ a0_0))) rfl ?_ ?_
  exact den_ret rfl
  exact den_ret rfl
theorem box_Empty.ok (F : FnE) (K : Nat) (ps r : List PD) (h : box_Empty.app ps = some r) : Sy.den F K box_Empty.t [] ps = some r := by
  obtain ⟨a, rfl, h2⟩ := app_ok (ra := box_Empty.ra) (rr := box_Empty.rr) (f := fun x => box_Empty.f x.1 x.2.1 x.2.2.1 x.2.2.2) h
  rw [← h2]
  exact box_Empty.den F K (a.1) (a.2.1) (a.2.2.1) (a.2.2.2)
noncomputable def l45 (K : Nat) : List (Nat × App) := (45, box_Empty.app) :: l0 K
theorem gd45 (K : Nat) : Sy.Good Try.prog fns (mkF (l45 K)) := good_cons (K := K) box_Empty.is rfl (by kernel_rfl) (by decide +kernel) envOk relOk relNp mix (gd0 K) (exts_ok rfl rfl rfl rfl rfl rfl rfl rfl rfl) (box_Empty.ok _ K)
/-! ### cover_columns: function 57 -/
noncomputable def cover_columns.body : Code := Try.f57.body.getD .skip
noncomputable def cover_columns.sg : List S1 := [(.one (.l 37 4))]
noncomputable def cover_columns.sh : Sh := (.one (.one (.l 3 1)))
noncomputable def cover_columns.cf : Cfg := ⟨env, Try.f57.ntmps, Try.f57.results.toList, some cover_columns.sh, rel, [3], [((3, 322, 1), ⟨[], [], [(8, [(0, .i)]), (3, [(0, (.own 3 1))])], []⟩)], (exts Try.f57.ntmps)⟩
noncomputable def cover_columns.b0 : Tree := (.ite (.lt (.va 1) (.lens [0] 0)) (.ite (.le (.nu 0) (.va 1)) (.get 0 (.va 1) [.i, .i, .i, .i] (.ite (.le (.lens [2] 2) (.nu cap17592186044416)) (.fix [(.va 2), (.row [(.ex (.va 3))]), (.row [(.ex (.va 5))])] 1 (.back 0 1 [(.ex (.add (.va 1) (.nu 1))), (.li 7)])) .bad)) .bad) (.ask 1000003 [(.li 2)] [(.l 3 1)] (.ask 1000006 [(.li 3)] [(.l 3 1)] (.fix [(.va 4)] 1 (.ret [(.li 5)])))))
noncomputable def cover_columns.t : Tree := (.loop [(.ex (.nu 0)), (.nl 1)] [.i, (.l 3 1)] cover_columns.b0)
noncomputable def cover_columns.ra : Rw (List (Int × Int × Int × Int)) := (rwL 37 4 rw_iiii rfl)
noncomputable def cover_columns.rr : Rw (List (Int)) := (rwL 3 1 rw_i rfl)
theorem cover_columns.rr_en (r : List (Int)) : cover_columns.rr.en r = [.lst 1 (r.map rw_i.en)] := rfl
noncomputable def cover_columns.l0 (p0 : List (Int × Int × Int × Int)) : Nat → (Int) → (List (Int)) → Option (List (Int))
  | 0, _, _ => none
  | k + 1, x0, x1 => (if (decide (x0 < ((p0.length : Nat) : Int))) = true then (if (decide (0 ≤ x0)) = true then ((p0[(x0 : Int).toNat]?).bind fun b0 => (if (decide (((x1.length + 2 : Nat) : Int) ≤ cap17592186044416)) = true then (cover_columns.l0 p0 k (wrap64 (x0 + 1)) (x1 ++ (b0.1 :: [b0.2.2.1]))) else none)) else none) else ((xsti x1).bind fun b0 => ((Hv.xco b0).bind fun b1 => some b1)))
noncomputable def cover_columns.f (K : Nat) (a0 : List (Int × Int × Int × Int)) : Option (List (Int)) := (cover_columns.l0 a0 K 0 [])
noncomputable def cover_columns.app (K : Nat) : App := fun ps => (cover_columns.ra.de ps).bind fun x => (cover_columns.f K x).map cover_columns.rr.en
theorem cover_columns.ap (K : Nat) (a0 : List (Int × Int × Int × Int)) : cover_columns.app K [.lst 4 (a0.map rw_iiii.en)] = (cover_columns.f K a0).map cover_columns.rr.en := app_ap cover_columns.ra cover_columns.rr (fun x => cover_columns.f K x) (a0)
theorem cover_columns.is : FnIs Try.prog 57 (.init cover_columns.sg) cover_columns.t cover_columns.cf := ⟨Try.f57, cover_columns.body, 6000, Try.func57, by kernel_rfl, rfl, rfl, by decide +kernel, by kernel_rfl⟩
theorem cover_columns.l0_den (F : FnE) (K : Nat) (h1000003 : F 1000003 = stiApp) (h1000006 : F 1000006 = Hv.coApp) (Js : List (List PD → Option (List PD))) (p0 : List (Int × Int × Int × Int)) : ∀ (k : Nat) (x0 : Int) (x1 : List (Int)), iterF (fun J ρ' => den F K cover_columns.b0 (J :: Js) ρ') k [.lst 4 (p0.map rw_iiii.en), .int x0, .lst 1 (x1.map rw_i.en)] = (cover_columns.l0 p0 k x0 x1).map cover_columns.rr.en := by
  intro k
  induction k with
  | zero => intros; rfl
  | succ k ih =>
    intro x0 x1
    show Sy.den F K cover_columns.b0 (iterF (fun J ρ' => Sy.den F K cover_columns.b0 (J :: Js) ρ') k :: Js) [.lst 4 (p0.map rw_iiii.en), .int x0, .lst 1 (x1.map rw_i.en)] = _
    revert ih
    generalize iterF (fun J ρ' => Sy.den F K cover_columns.b0 (J :: Js) ρ') k = J0
    intro ih
    rw [cover_columns.l0]
    show Sy.den F K cover_columns.b0 _ [.lst 4 (p0.map rw_iiii.en), .int x0, .lst 1 (x1.map rw_i.en)] = _
    unfold cover_columns.b0
    refine den_ite (b := (decide (x0 < ((p0.length : Nat) : Int)))) (by simp only [pds, PC.pd, E.ev, B.ev, SE.ev, LE.rows, lensEv, kSl_eq, kPt_eq, ov_prop, List.getElem?_cons_zero, List.getElem?_cons_succ, List.length_map, Nat.add_zero, Nat.zero_add, Option.bind_some, Option.map_some, if_true, Subtype.eta, mxi, mni, List.map_append, List.map_cons, List.map_nil, List.cons_append, List.nil_append, List.append_nil]) ?_ ?_
    refine den_ite (b := (decide (0 ≤ x0))) rfl ?_ ?_
    refine den_get (L := p0) (rw := rw_iiii) rfl rfl rfl fun b0 => ?_
    show Sy.den F K _ _ [.lst 4 (p0.map rw_iiii.en), .int x0, .lst 1 (x1.map rw_i.en), .int b0.1, .int b0.2.1, .int b0.2.2.1, .int b0.2.2.2] = _
    refine den_ite (b := (decide (((x1.length + 2 : Nat) : Int) ≤ cap17592186044416))) (by simp only [pds, PC.pd, E.ev, B.ev, SE.ev, LE.rows, lensEv, kSl_eq, kPt_eq, ov_prop, List.getElem?_cons_zero, List.getElem?_cons_succ, List.length_map, Nat.add_zero, Nat.zero_add, Option.bind_some, Option.map_some, if_true, Subtype.eta, mxi, mni, List.map_append, List.map_cons, List.map_nil, List.cons_append, List.nil_append, List.append_nil]) ?_ ?_
    refine den_fix (rows := List.map rw_i.en (x1 ++ (b0.1 :: [b0.2.2.1]))) (by simp only [pds, PC.pd, E.ev, B.ev, SE.ev, LE.rows, lensEv, kSl_eq, kPt_eq, ov_prop, List.getElem?_cons_zero, List.getElem?_cons_succ, List.length_map, Nat.add_zero, Nat.zero_add, Option.bind_some, Option.map_some, if_true, Subtype.eta, mxi, mni, List.map_append, List.map_cons, List.map_nil, List.cons_append, List.nil_append, List.append_nil, rw_i_en]) ?_
    show Sy.den F K _ _ [.lst 4 (p0.map rw_iiii.en), .int x0, .lst 1 (x1.map rw_i.en), .int b0.1, .int b0.2.1, .int b0.2.2.1, .int b0.2.2.2, .lst 1 ((x1 ++ (b0.1 :: [b0.2.2.1])).map rw_i.en)] = _
    refine den_back (vs := [.int (wrap64 (x0 + 1)), .lst 1 ((x1 ++ (b0.1 :: [b0.2.2.1])).map rw_i.en)]) (by simp only [pds, PC.pd, E.ev, B.ev, SE.ev, LE.rows, lensEv, kSl_eq, kPt_eq, ov_prop, List.getElem?_cons_zero, List.getElem?_cons_succ, List.length_map, Nat.add_zero, Nat.zero_add, Option.bind_some, Option.map_some, if_true, Subtype.eta, mxi, mni, List.map_append, List.map_cons, List.map_nil, List.cons_append, List.nil_append, List.append_nil]) rfl ?_
    exact ih (wrap64 (x0 + 1)) (x1 ++ (b0.1 :: [b0.2.2.1]))
    exact den_bad _ _ _ _ _
    exact den_bad _ _ _ _ _
    refine den_ask (ps := [.lst 1 (x1.map rw_i.en)]) (rr := rwL 3 1 rw_i rfl) (G := xsti x1) (by rw [h1000003]; exact xsti_ap 3 1 x1) (by simp only [pds, PC.pd, E.ev, B.ev, SE.ev, LE.rows, lensEv, kSl_eq, kPt_eq, ov_prop, List.getElem?_cons_zero, List.getElem?_cons_succ, List.length_map, Nat.add_zero, Nat.zero_add, Option.bind_some, Option.map_some, if_true, Subtype.eta, mxi, mni, List.map_append, List.map_cons, List.map_nil, List.cons_append, List.nil_append, List.append_nil]) rfl fun b0 => ?_
    show Sy.den F K _ _ [.lst 4 (p0.map rw_iiii.en), .int x0, .lst 1 (x1.map rw_i.en), .lst 1 (b0.map rw_i.en)] = _
    refine den_ask (ps := [.lst 1 (b0.map rw_i.en)]) (rr := rwL 3 1 rw_i rfl) (G := Hv.xco b0) (by rw [h1000006]; exact Hv.xco_ap 3 1 b0) (by simp only [pds, PC.pd, E.ev, B.ev, SE.ev, LE.rows, lensEv, kSl_eq, kPt_eq, ov_prop, List.getElem?_cons_zero, List.getElem?_cons_succ, List.length_map, Nat.add_zero, Nat.zero_add, Option.bind_some, Option.map_some, if_true, Subtype.eta, mxi, mni, List.map_append, List.map_cons, List.map_nil, List.cons_append, List.nil_append, List.append_nil]) rfl fun b1 => ?_
    show Sy.den F K _ _ [.lst 4 (p0.map rw_iiii.en), .int x0, .lst 1 (x1.map rw_i.en), .lst 1 (b0.map rw_i.en), .lst 1 (b1.map rw_i.en)] = _
    refine den_fix (rows := List.map rw_i.en b1) (by simp only [pds, PC.pd, E.ev, B.ev, SE.ev, LE.rows, lensEv, kSl_eq, kPt_eq, ov_prop, List.getElem?_cons_zero, List.getElem?_cons_succ, List.length_map, Nat.add_zero, Nat.zero_add, Option.bind_some, Option.map_some, if_true, Subtype.eta, mxi, mni, List.map_append, List.map_cons, List.map_nil, List.cons_append, List.nil_append, List.append_nil, rw_i_en]) ?_
    show Sy.den F K _ _ [.lst 4 (p0.map rw_iiii.en), .int x0, .lst 1 (x1.map rw_i.en), .lst 1 (b0.map rw_i.en), .lst 1 (b1.map rw_i.en), .lst 1 (b1.map rw_i.en)] = _
    exact den_ret (by simp only [pds, PC.pd, E.ev, B.ev, SE.ev, LE.rows, lensEv, kSl_eq, kPt_eq, ov_prop, List.getElem?_cons_zero, List.getElem?_cons_succ, List.length_map, Nat.add_zero, Nat.zero_add, Option.bind_some, Option.map_some, if_true, Subtype.eta, mxi, mni, List.map_append, List.map_cons, List.map_nil, List.cons_append, List.nil_append, List.append_nil, cover_columns.rr_en])
theorem cover_columns.den (F : FnE) (K : Nat) (h1000003 : F 1000003 = stiApp) (h1000006 : F 1000006 = Hv.coApp) (a0 : List (Int × Int × Int × Int)) : Sy.den F K cover_columns.t [] [.lst 4 (a0.map rw_iiii.en)] = (cover_columns.f K a0).map cover_columns.rr.en := by
  unfold cover_columns.t cover_columns.f
  refine den_loop (vs := [.int 0, .lst 1 []]) (by simp only [pds, PC.pd, E.ev, B.ev, SE.ev, LE.rows, lensEv, kSl_eq, kPt_eq, ov_prop, List.getElem?_cons_zero, List.getElem?_cons_succ, List.length_map, Nat.add_zero, Nat.zero_add, Option.bind_some, Option.map_some, if_true, Subtype.eta, mxi, mni, List.map_append, List.map_cons, List.map_nil, List.cons_append, List.nil_append, List.append_nil]) ?_
  exact cover_columns.l0_den F K h1000003 h1000006 [] a0 K 0 []
theorem cover_columns.ok (F : FnE) (K : Nat) (h1000003 : F 1000003 = stiApp) (h1000006 : F 1000006 = Hv.coApp) (ps r : List PD) (h : cover_columns.app K ps = some r) : Sy.den F K cover_columns.t [] ps = some r := by
  obtain ⟨a, rfl, h2⟩ := app_ok (ra := cover_columns.ra) (rr := cover_columns.rr) (f := fun x => cover_columns.f K x) h
  rw [← h2]
  exact cover_columns.den F K h1000003 h1000006 a
noncomputable def l57 (K : Nat) : List (Nat × App) := (57, cover_columns.app K) :: l45 K
theorem gd57 (K : Nat) : Sy.Good Try.prog fns (mkF (l57 K)) := good_cons (K := K) cover_columns.is rfl (by kernel_rfl) (by decide +kernel) envOk relOk relNp mix (gd45 K) (exts_ok rfl rfl rfl rfl rfl rfl rfl rfl rfl) (cover_columns.ok _ K rfl rfl)
/-! ### cover_heights_1: function 69 -/
noncomputable def cover_heights_1.body : Code := Try.f69.body.getD .skip
noncomputable def cover_heights_1.sg : List S1 := [(.agg [.i, .i]), (.agg [.i, .i])]
noncomputable def cover_heights_1.sh : Sh := (.one (.one .i))
noncomputable def cover_heights_1.cf : Cfg := ⟨env, Try.f69.ntmps, Try.f69.results.toList, some cover_heights_1.sh, rel, [], [], (exts Try.f69.ntmps)⟩
noncomputable def cover_heights_1.t : Tree := (.ite (.lt (.va 0) (.va 2)) (.ret [(.ex (.nu (-1)))]) (.ite (.lt (.va 2) (.va 0)) (.ret [(.ex (.nu 1))]) (.ret [(.ex (.nu 0))])))
noncomputable def cover_heights_1.ra : Rw (Int × Int × Int × Int) := (rwP rwI (rwP rwI (rwP rwI rwI)))
noncomputable def cover_heights_1.rr : Rw (Int) := rwI
theorem cover_heights_1.rr_en (r : Int) : cover_heights_1.rr.en r = [.int r] := rfl
noncomputable def cover_heights_1.f (a0_0 : Int) (a0_1 : Int) (a1_0 : Int) (a1_1 : Int) : Option (Int) := (if (decide (a0_0 < a1_0)) = true then some (-1) else (if (decide (a1_0 < a0_0)) = true then some 1 else some 0))
noncomputable def cover_heights_1.app : App := fun ps => (cover_heights_1.ra.de ps).bind fun x => (cover_heights_1.f x.1 x.2.1 x.2.2.1 x.2.2.2).map cover_heights_1.rr.en
theorem cover_heights_1.ap (a0_0 : Int) (a0_1 : Int) (a1_0 : Int) (a1_1 : Int) : cover_heights_1.app [.int a0_0, .int a0_1, .int a1_0, .int a1_1] = (cover_heights_1.f a0_0 a0_1 a1_0 a1_1).map cover_heights_1.rr.en := app_ap cover_heights_1.ra cover_heights_1.rr (fun x => cover_heights_1.f x.1 x.2.1 x.2.2.1 x.2.2.2) (a0_0, a0_1, a1_0, a1_1)
theorem cover_heights_1.is : FnIs Try.prog 69 (.init cover_heights_1.sg) cover_heights_1.t cover_heights_1.cf := ⟨Try.f69, cover_heights_1.body, 6000, Try.func69, by kernel_rfl, rfl, rfl, by decide +kernel, by kernel_rfl⟩
theorem cover_heights_1.den (F : FnE) (K : Nat) (a0_0 : Int) (a0_1 : Int) (a1_0 : Int) (a1_1 : Int) : Sy.den F K cover_heights_1.t [] [.int a0_0, .int a0_1, .int a1_0, .int a1_1] = (cover_heights_1.f a0_0 a0_1 a1_0 a1_1).map cover_heights_1.rr.en := by
  unfold cover_heights_1.t cover_heights_1.f
  refine den_ite (b := (decide (a0_0 < a1_0))) rfl ?_ ?_
  exact den_ret rfl
  refine den_ite (b := (decide (a1_0 < a0_0))) rfl ?_ ?_
  exact den_ret rfl
  exact den_ret rfl
theorem cover_heights_1.ok (F : FnE) (K : Nat) (ps r : List PD) (h : cover_heights_1.app ps = some r) : Sy.den F K cover_heights_1.t [] ps = some r := by
  obtain ⟨a, rfl, h2⟩ := app_ok (ra := cover_heights_1.ra) (rr := cover_heights_1.rr) (f := fun x => cover_heights_1.f x.1 x.2.1 x.2.2.1 x.2.2.2) h
  rw [← h2]
  exact cover_heights_1.den F K (a.1) (a.2.1) (a.2.2.1) (a.2.2.2)
noncomputable def l69 (K : Nat) : List (Nat × App) := (69, cover_heights_1.app) :: l57 K
theorem gd69 (K : Nat) : Sy.Good Try.prog fns (mkF (l69 K)) := good_cons (K := K) cover_heights_1.is rfl (by kernel_rfl) (by decide +kernel) envOk relOk relNp mix (gd57 K) (exts_ok rfl rfl rfl rfl rfl rfl rfl rfl rfl) (cover_heights_1.ok _ K)
/-! ### cover_heights: function 58 -/
noncomputable def cover_heights.body : Code := Try.f58.body.getD .skip
noncomputable def cover_heights.sg : List S1 := [(.one .i), (.one (.l 37 4))]
noncomputable def cover_heights.sh : Sh := (.one (.one .i))
noncomputable def cover_heights.cf : Cfg := ⟨env, Try.f58.ntmps, Try.f58.results.toList, some cover_heights.sh, rel, [3, 10], [((3, 323, 2), ⟨[], [], [(14, [(0, .i)]), (5, [(0, (.own 99 2))])], []⟩), ((10, 773, 5), ⟨[], [], [(32, [(0, .i)]), (9, [(0, .i)]), (8, [(0, .i)])], []⟩)], (exts Try.f58.ntmps)⟩
noncomputable def cover_heights.b1 : Tree := (.ite (.lt (.va 5) (.lens [4] 0)) (.ite (.le (.nu 0) (.va 5)) (.get 4 (.va 5) [.i, .i] (.ite (.le (.va 0) (.va 6)) (.ite (.le (.nu 0) (.sub (.va 5) (.nu 1))) (.ite (.lt (.sub (.va 5) (.nu 1)) (.lens [4] 0)) (.get 4 (.sub (.va 5) (.nu 1)) [.i, .i] (.back 0 5 [(.ex (.add (.va 5) (.nu 1))), (.ex (.add (.va 6) (.va 9))), (.ex (.add (.va 7) (.sub (.va 8) (.va 10))))])) .bad) .bad) (.back 0 5 [(.ex (.add (.va 5) (.nu 1))), (.ex (.add (.va 6) (.va 9))), (.ex (.va 7))]))) .bad) (.ret [(.ex (.va 7))]))
noncomputable def cover_heights.b0 : Tree := (.ite (.lt (.va 2) (.lens [1] 0)) (.ite (.le (.nu 0) (.va 2)) (.get 1 (.va 2) [.i, .i, .i, .i] (.ite (.le (.lens [3] 2) (.nu cap8796093022208)) (.fix [(.va 3), (.row [(.ex (.va 5)), (.ex (.nu 1))]), (.row [(.ex (.va 7)), (.ex (.nu (-1)))])] 2 (.back 0 2 [(.ex (.add (.va 2) (.nu 1))), (.li 8)])) .bad)) .bad) (.ask 1000005 [(.li 3)] [(.l 99 2)] (.loop [(.ex (.nu 0)), (.ex (.nu 0)), (.ex (.nu 0))] [.i, .i, .i] cover_heights.b1)))
noncomputable def cover_heights.t : Tree := (.loop [(.ex (.nu 0)), (.nl 2)] [.i, (.l 99 2)] cover_heights.b0)
noncomputable def cover_heights.ra : Rw (Int × (List (Int × Int × Int × Int))) := (rwP rwI (rwL 37 4 rw_iiii rfl))
noncomputable def cover_heights.rr : Rw (Int) := rwI
theorem cover_heights.rr_en (r : Int) : cover_heights.rr.en r = [.int r] := rfl
noncomputable def cover_heights.l1 (p0 : Int) (p4 : List (Int × Int)) : Nat → (Int) → (Int) → (Int) → Option (Int)
  | 0, _, _, _ => none
  | k + 1, x0, x1, x2 => (if (decide (x0 < ((p4.length : Nat) : Int))) = true then (if (decide (0 ≤ x0)) = true then ((p4[(x0 : Int).toNat]?).bind fun b0 => (if (decide (p0 ≤ x1)) = true then (if (decide (0 ≤ (wrap64 (x0 - 1)))) = true then (if (decide ((wrap64 (x0 - 1)) < ((p4.length : Nat) : Int))) = true then ((p4[((wrap64 (x0 - 1)) : Int).toNat]?).bind fun b1 => (cover_heights.l1 p0 p4 k (wrap64 (x0 + 1)) (wrap64 (x1 + b0.2)) (wrap64 (x2 + (wrap64 (b0.1 - b1.1)))))) else none) else none) else (cover_heights.l1 p0 p4 k (wrap64 (x0 + 1)) (wrap64 (x1 + b0.2)) x2))) else none) else some x2)
noncomputable def cover_heights.l0 (K : Nat) (p0 : Int) (p1 : List (Int × Int × Int × Int)) : Nat → (Int) → (List (Int × Int)) → Option (Int)
  | 0, _, _ => none
  | k + 1, x0, x1 => (if (decide (x0 < ((p1.length : Nat) : Int))) = true then (if (decide (0 ≤ x0)) = true then ((p1[(x0 : Int).toNat]?).bind fun b0 => (if (decide (((x1.length + 2 : Nat) : Int) ≤ cap8796093022208)) = true then (cover_heights.l0 K p0 p1 k (wrap64 (x0 + 1)) (x1 ++ ((b0.2.1, 1) :: [(b0.2.2.2, (-1))]))) else none)) else none) else ((Hv.xsf x1).bind fun b0 => (cover_heights.l1 p0 b0 K 0 0 0)))
noncomputable def cover_heights.f (K : Nat) (a0 : Int) (a1 : List (Int × Int × Int × Int)) : Option (Int) := (cover_heights.l0 K a0 a1 K 0 [])
noncomputable def cover_heights.app (K : Nat) : App := fun ps => (cover_heights.ra.de ps).bind fun x => (cover_heights.f K x.1 x.2).map cover_heights.rr.en
theorem cover_heights.ap (K : Nat) (a0 : Int) (a1 : List (Int × Int × Int × Int)) : cover_heights.app K [.int a0, .lst 4 (a1.map rw_iiii.en)] = (cover_heights.f K a0 a1).map cover_heights.rr.en := app_ap cover_heights.ra cover_heights.rr (fun x => cover_heights.f K x.1 x.2) (a0, a1)
theorem cover_heights.is : FnIs Try.prog 58 (.init cover_heights.sg) cover_heights.t cover_heights.cf := ⟨Try.f58, cover_heights.body, 6000, Try.func58, by kernel_rfl, rfl, rfl, by decide +kernel, by kernel_rfl⟩
theorem cover_heights.l1_den (F : FnE) (K : Nat) (h1000005 : F 1000005 = Hv.sfApp) (Js : List (List PD → Option (List PD))) (J0 : List PD → Option (List PD)) (j0 : (Int) → (List (Int × Int)) → Option (Int)) (p0 : Int) (p1 : List (Int × Int × Int × Int)) (p2 : Int) (p3 : List (Int × Int)) (p4 : List (Int × Int)) (hJ0 : ∀ (y0 : Int) (y1 : List (Int × Int)), J0 [.int p0, .lst 4 (p1.map rw_iiii.en), .int y0, .lst 2 (y1.map rw_ii.en)] = (j0 y0 y1).map cover_heights.rr.en) : ∀ (k : Nat) (x0 : Int) (x1 : Int) (x2 : Int), iterF (fun J ρ' => den F K cover_heights.b1 (J :: J0 :: Js) ρ') k [.int p0, .lst 4 (p1.map rw_iiii.en), .int p2, .lst 2 (p3.map rw_ii.en), .lst 2 (p4.map rw_ii.en), .int x0, .int x1, .int x2] = (cover_heights.l1 p0 p4 k x0 x1 x2).map cover_heights.rr.en := by
  intro k
  induction k with
  | zero => intros; rfl
  | succ k ih =>
    intro x0 x1 x2
    show Sy.den F K cover_heights.b1 (iterF (fun J ρ' => Sy.den F K cover_heights.b1 (J :: J0 :: Js) ρ') k :: J0 :: Js) [.int p0, .lst 4 (p1.map rw_iiii.en), .int p2, .lst 2 (p3.map rw_ii.en), .lst 2 (p4.map rw_ii.en), .int x0, .int x1, .int x2] = _
    revert ih
    generalize iterF (fun J ρ' => Sy.den F K cover_heights.b1 (J :: J0 :: Js) ρ') k = J1
    intro ih
    rw [cover_heights.l1]
    show Sy.den F K cover_heights.b1 _ [.int p0, .lst 4 (p1.map rw_iiii.en), .int p2, .lst 2 (p3.map rw_ii.en), .lst 2 (p4.map rw_ii.en), .int x0, .int x1, .int x2] = _
    unfold cover_heights.b1
    refine den_ite (b := (decide (x0 < ((p4.length : Nat) : Int)))) (by simp only [pds, PC.pd, E.ev, B.ev, SE.ev, LE.rows, lensEv, kSl_eq, kPt_eq, ov_prop, List.getElem?_cons_zero, List.getElem?_cons_succ, List.length_map, Nat.add_zero, Nat.zero_add, Option.bind_some, Option.map_some, if_true, Subtype.eta, mxi, mni, List.map_append, List.map_cons, List.map_nil, List.cons_append, List.nil_append, List.append_nil]) ?_ ?_
    refine den_ite (b := (decide (0 ≤ x0))) rfl ?_ ?_
    refine den_get (L := p4) (rw := rw_ii) rfl rfl rfl fun b0 => ?_
    show Sy.den F K _ _ [.int p0, .lst 4 (p1.map rw_iiii.en), .int p2, .lst 2 (p3.map rw_ii.en), .lst 2 (p4.map rw_ii.en), .int x0, .int x1, .int x2, .int b0.1, .int b0.2] = _
    refine den_ite (b := (decide (p0 ≤ x1))) rfl ?_ ?_
    refine den_ite (b := (decide (0 ≤ (wrap64 (x0 - 1))))) rfl ?_ ?_
    refine den_ite (b := (decide ((wrap64 (x0 - 1)) < ((p4.length : Nat) : Int)))) (by simp only [pds, PC.pd, E.ev, B.ev, SE.ev, LE.rows, lensEv, kSl_eq, kPt_eq, ov_prop, List.getElem?_cons_zero, List.getElem?_cons_succ, List.length_map, Nat.add_zero, Nat.zero_add, Option.bind_some, Option.map_some, if_true, Subtype.eta, mxi, mni, List.map_append, List.map_cons, List.map_nil, List.cons_append, List.nil_append, List.append_nil]) ?_ ?_
    refine den_get (L := p4) (rw := rw_ii) rfl rfl rfl fun b1 => ?_
    show Sy.den F K _ _ [.int p0, .lst 4 (p1.map rw_iiii.en), .int p2, .lst 2 (p3.map rw_ii.en), .lst 2 (p4.map rw_ii.en), .int x0, .int x1, .int x2, .int b0.1, .int b0.2, .int b1.1, .int b1.2] = _
    refine den_back (vs := [.int (wrap64 (x0 + 1)), .int (wrap64 (x1 + b0.2)), .int (wrap64 (x2 + (wrap64 (b0.1 - b1.1))))]) rfl rfl ?_
    exact ih (wrap64 (x0 + 1)) (wrap64 (x1 + b0.2)) (wrap64 (x2 + (wrap64 (b0.1 - b1.1))))
    exact den_bad _ _ _ _ _
    exact den_bad _ _ _ _ _
    refine den_back (vs := [.int (wrap64 (x0 + 1)), .int (wrap64 (x1 + b0.2)), .int x2]) rfl rfl ?_
    exact ih (wrap64 (x0 + 1)) (wrap64 (x1 + b0.2)) x2
    exact den_bad _ _ _ _ _
    exact den_ret rfl
theorem cover_heights.l0_den (F : FnE) (K : Nat) (h1000005 : F 1000005 = Hv.sfApp) (Js : List (List PD → Option (List PD))) (p0 : Int) (p1 : List (Int × Int × Int × Int)) : ∀ (k : Nat) (x0 : Int) (x1 : List (Int × Int)), iterF (fun J ρ' => den F K cover_heights.b0 (J :: Js) ρ') k [.int p0, .lst 4 (p1.map rw_iiii.en), .int x0, .lst 2 (x1.map rw_ii.en)] = (cover_heights.l0 K p0 p1 k x0 x1).map cover_heights.rr.en := by
  intro k
  induction k with
  | zero => intros; rfl
  | succ k ih =>
    intro x0 x1
    show Sy.den F K cover_heights.b0 (iterF (fun J ρ' => Sy.den F K cover_heights.b0 (J :: Js) ρ') k :: Js) [.int p0, .lst 4 (p1.map rw_iiii.en), .int x0, .lst 2 (x1.map rw_ii.en)] = _
    revert ih
    generalize iterF (fun J ρ' => Sy.den F K cover_heights.b0 (J :: Js) ρ') k = J0
    intro ih
    rw [cover_heights.l0]
    show Sy.den F K cover_heights.b0 _ [.int p0, .lst 4 (p1.map rw_iiii.en), .int x0, .lst 2 (x1.map rw_ii.en)] = _
    unfold cover_heights.b0
    refine den_ite (b := (decide (x0 < ((p1.length : Nat) : Int)))) (by simp only [pds, PC.pd, E.ev, B.ev, SE.ev, LE.rows, lensEv, kSl_eq, kPt_eq, ov_prop, List.getElem?_cons_zero, List.getElem?_cons_succ, List.length_map, Nat.add_zero, Nat.zero_add, Option.bind_some, Option.map_some, if_true, Subtype.eta, mxi, mni, List.map_append, List.map_cons, List.map_nil, List.cons_append, List.nil_append, List.append_nil]) ?_ ?_
    refine den_ite (b := (decide (0 ≤ x0))) rfl ?_ ?_
    refine den_get (L := p1) (rw := rw_iiii) rfl rfl rfl fun b0 => ?_
    show Sy.den F K _ _ [.int p0, .lst 4 (p1.map rw_iiii.en), .int x0, .lst 2 (x1.map rw_ii.en), .int b0.1, .int b0.2.1, .int b0.2.2.1, .int b0.2.2.2] = _
    refine den_ite (b := (decide (((x1.length + 2 : Nat) : Int) ≤ cap8796093022208))) (by simp only [pds, PC.pd, E.ev, B.ev, SE.ev, LE.rows, lensEv, kSl_eq, kPt_eq, ov_prop, List.getElem?_cons_zero, List.getElem?_cons_succ, List.length_map, Nat.add_zero, Nat.zero_add, Option.bind_some, Option.map_some, if_true, Subtype.eta, mxi, mni, List.map_append, List.map_cons, List.map_nil, List.cons_append, List.nil_append, List.append_nil]) ?_ ?_
    refine den_fix (rows := List.map rw_ii.en (x1 ++ ((b0.2.1, 1) :: [(b0.2.2.2, (-1))]))) (by simp only [pds, PC.pd, E.ev, B.ev, SE.ev, LE.rows, lensEv, kSl_eq, kPt_eq, ov_prop, List.getElem?_cons_zero, List.getElem?_cons_succ, List.length_map, Nat.add_zero, Nat.zero_add, Option.bind_some, Option.map_some, if_true, Subtype.eta, mxi, mni, List.map_append, List.map_cons, List.map_nil, List.cons_append, List.nil_append, List.append_nil, rw_ii_en]) ?_
    show Sy.den F K _ _ [.int p0, .lst 4 (p1.map rw_iiii.en), .int x0, .lst 2 (x1.map rw_ii.en), .int b0.1, .int b0.2.1, .int b0.2.2.1, .int b0.2.2.2, .lst 2 ((x1 ++ ((b0.2.1, 1) :: [(b0.2.2.2, (-1))])).map rw_ii.en)] = _
    refine den_back (vs := [.int (wrap64 (x0 + 1)), .lst 2 ((x1 ++ ((b0.2.1, 1) :: [(b0.2.2.2, (-1))])).map rw_ii.en)]) (by simp only [pds, PC.pd, E.ev, B.ev, SE.ev, LE.rows, lensEv, kSl_eq, kPt_eq, ov_prop, List.getElem?_cons_zero, List.getElem?_cons_succ, List.length_map, Nat.add_zero, Nat.zero_add, Option.bind_some, Option.map_some, if_true, Subtype.eta, mxi, mni, List.map_append, List.map_cons, List.map_nil, List.cons_append, List.nil_append, List.append_nil]) rfl ?_
    exact ih (wrap64 (x0 + 1)) (x1 ++ ((b0.2.1, 1) :: [(b0.2.2.2, (-1))]))
    exact den_bad _ _ _ _ _
    exact den_bad _ _ _ _ _
    refine den_ask (ps := [.lst 2 (x1.map rw_ii.en)]) (rr := rwL 99 2 rw_ii rfl) (G := Hv.xsf x1) (by rw [h1000005]; exact Hv.xsf_ap 99 2 x1) (by simp only [pds, PC.pd, E.ev, B.ev, SE.ev, LE.rows, lensEv, kSl_eq, kPt_eq, ov_prop, List.getElem?_cons_zero, List.getElem?_cons_succ, List.length_map, Nat.add_zero, Nat.zero_add, Option.bind_some, Option.map_some, if_true, Subtype.eta, mxi, mni, List.map_append, List.map_cons, List.map_nil, List.cons_append, List.nil_append, List.append_nil]) rfl fun b0 => ?_
    show Sy.den F K _ _ [.int p0, .lst 4 (p1.map rw_iiii.en), .int x0, .lst 2 (x1.map rw_ii.en), .lst 2 (b0.map rw_ii.en)] = _
    refine den_loop (vs := [.int 0, .int 0, .int 0]) rfl ?_
    exact cover_heights.l1_den F K h1000005 Js J0 (fun y0 y1 => cover_heights.l0 K p0 p1 k y0 y1) p0 p1 x0 x1 b0 ih K 0 0 0
theorem cover_heights.den (F : FnE) (K : Nat) (h1000005 : F 1000005 = Hv.sfApp) (a0 : Int) (a1 : List (Int × Int × Int × Int)) : Sy.den F K cover_heights.t [] [.int a0, .lst 4 (a1.map rw_iiii.en)] = (cover_heights.f K a0 a1).map cover_heights.rr.en := by
  unfold cover_heights.t cover_heights.f
  refine den_loop (vs := [.int 0, .lst 2 []]) (by simp only [pds, PC.pd, E.ev, B.ev, SE.ev, LE.rows, lensEv, kSl_eq, kPt_eq, ov_prop, List.getElem?_cons_zero, List.getElem?_cons_succ, List.length_map, Nat.add_zero, Nat.zero_add, Option.bind_some, Option.map_some, if_true, Subtype.eta, mxi, mni, List.map_append, List.map_cons, List.map_nil, List.cons_append, List.nil_append, List.append_nil]) ?_
  exact cover_heights.l0_den F K h1000005 [] a0 a1 K 0 []
theorem cover_heights.ok (F : FnE) (K : Nat) (h1000005 : F 1000005 = Hv.sfApp) (ps r : List PD) (h : cover_heights.app K ps = some r) : Sy.den F K cover_heights.t [] ps = some r := by
  obtain ⟨a, rfl, h2⟩ := app_ok (ra := cover_heights.ra) (rr := cover_heights.rr) (f := fun x => cover_heights.f K x.1 x.2) h
  rw [← h2]
  exact cover_heights.den F K h1000005 (a.1) (a.2)
noncomputable def l58 (K : Nat) : List (Nat × App) := (58, cover_heights.app K) :: l69 K
theorem gd58 (K : Nat) : Sy.Good Try.prog fns (mkF (l58 K)) := good_cons (K := K) cover_heights.is rfl (by kernel_rfl) (by decide +kernel) envOk relOk relNp mix (gd69 K) (exts_ok rfl rfl rfl rfl rfl rfl rfl rfl rfl) (cover_heights.ok _ K rfl)
/-! ### cover_Often: function 37 -/
noncomputable def cover_Often.body : Code := Try.f37.body.getD .skip
noncomputable def cover_Often.sg : List S1 := [(.one .i), (.one (.l 37 4))]
noncomputable def cover_Often.sh : Sh := (.one (.one .i))
noncomputable def cover_Often.cf : Cfg := ⟨env, Try.f37.ntmps, Try.f37.results.toList, some cover_Often.sh, rel, [5, 9], [((5, 643, 6), ⟨[12], [], [(7, [(0, .i)]), (6, [(0, .i)])], []⟩), ((9, 1155, 6), ⟨[], [], [(24, [(0, .i), (0, .i), (0, .i)]), (8, [(0, (.own 37 4))])], []⟩), ((9, 1157, 8), ⟨[], [], [(24, [(0, .i), (0, .i), (0, .i)]), (8, [(0, (.own 37 4))])], []⟩)], (exts Try.f37.ntmps)⟩
noncomputable def cover_Often.b1 : Tree := (.ite (.lt (.va 8) (.lens [4] 0)) (.ite (.le (.nu 0) (.va 8)) (.get 4 (.va 8) [.i, .i, .i, .i] (.ite (.le (.nu 0) (.sub (.va 6) (.nu 1))) (.ite (.lt (.sub (.va 6) (.nu 1)) (.lens [5] 0)) (.get 5 (.sub (.va 6) (.nu 1)) [.i] (.ite (.le (.va 10) (.va 14)) (.ite (.le (.nu 0) (.va 6)) (.get 5 (.va 6) [.i] (.ite (.le (.va 15) (.va 12)) (.ite (.le (.lens [9] 1) (.nu cap4398046511104)) (.fix [(.va 9), (.row [(.ex (.va 10)), (.ex (.va 11)), (.ex (.va 12)), (.ex (.va 13))])] 4 (.back 0 8 [(.ex (.add (.va 8) (.nu 1))), (.li 16)])) .bad) (.back 0 8 [(.ex (.add (.va 8) (.nu 1))), (.li 9)]))) .bad) (.back 0 8 [(.ex (.add (.va 8) (.nu 1))), (.li 9)]))) .bad) .bad)) .bad) (.ite (.le (.nu 0) (.va 6)) (.get 5 (.va 6) [.i] (.ite (.le (.nu 0) (.sub (.va 6) (.nu 1))) (.ite (.lt (.sub (.va 6) (.nu 1)) (.lens [5] 0)) (.get 5 (.sub (.va 6) (.nu 1)) [.i] (.fix [(.va 9)] 4 (.ask 58 [(.ex (.mx (.va 0) (.nu 1))), (.li 12)] [.i] (.back 1 6 [(.ex (.add (.va 6) (.nu 1))), (.ex (.add (.va 7) (.mul (.sub (.va 10) (.va 11)) (.va 13))))])))) .bad) .bad)) .bad))
noncomputable def cover_Often.b0 : Tree := (.ite (.lt (.va 6) (.lens [5] 0)) (.loop [(.ex (.nu 0)), (.nl 4)] [.i, (.l 37 4)] cover_Often.b1) (.ret [(.ex (.va 7))]))
noncomputable def cover_Often.t : Tree := (.ask 1001037 [(.li 1)] [(.l 37 4)] (.ask 1000007 [(.li 2)] [(.l 37 4)] (.fix [(.va 3)] 4 (.ask 57 [(.li 4)] [(.l 3 1)] (.loop [(.ex (.nu 1)), (.ex (.nu 0))] [.i, .i] cover_Often.b0)))))
noncomputable def cover_Often.ra : Rw (Int × (List (Int × Int × Int × Int))) := (rwP rwI (rwL 37 4 rw_iiii rfl))
noncomputable def cover_Often.rr : Rw (Int) := rwI
theorem cover_Often.rr_en (r : Int) : cover_Often.rr.en r = [.int r] := rfl
noncomputable def cover_Often.l1 (K : Nat) (j0 : (Int) → (Int) → Option (Int)) (p0 : Int) (p4 : List (Int × Int × Int × Int)) (p5 : List (Int)) (p6 : Int) (p7 : Int) : Nat → (Int) → (List (Int × Int × Int × Int)) → Option (Int)
  | 0, _, _ => none
  | k + 1, x0, x1 => (if (decide (x0 < ((p4.length : Nat) : Int))) = true then (if (decide (0 ≤ x0)) = true then ((p4[(x0 : Int).toNat]?).bind fun b0 => (if (decide (0 ≤ (wrap64 (p6 - 1)))) = true then (if (decide ((wrap64 (p6 - 1)) < ((p5.length : Nat) : Int))) = true then ((p5[((wrap64 (p6 - 1)) : Int).toNat]?).bind fun b1 => (if (decide (b0.1 ≤ b1)) = true then (if (decide (0 ≤ p6)) = true then ((p5[(p6 : Int).toNat]?).bind fun b2 => (if (decide (b2 ≤ b0.2.2.1)) = true then (if (decide (((x1.length + 1 : Nat) : Int) ≤ cap4398046511104)) = true then (cover_Often.l1 K j0 p0 p4 p5 p6 p7 k (wrap64 (x0 + 1)) (x1 ++ [(b0.1, b0.2.1, b0.2.2.1, b0.2.2.2)])) else none) else (cover_Often.l1 K j0 p0 p4 p5 p6 p7 k (wrap64 (x0 + 1)) x1))) else none) else (cover_Often.l1 K j0 p0 p4 p5 p6 p7 k (wrap64 (x0 + 1)) x1))) else none) else none)) else none) else (if (decide (0 ≤ p6)) = true then ((p5[(p6 : Int).toNat]?).bind fun b0 => (if (decide (0 ≤ (wrap64 (p6 - 1)))) = true then (if (decide ((wrap64 (p6 - 1)) < ((p5.length : Nat) : Int))) = true then ((p5[((wrap64 (p6 - 1)) : Int).toNat]?).bind fun b1 => ((cover_heights.f K (mxi p0 1) x1).bind fun b2 => (j0 (wrap64 (p6 + 1)) (wrap64 (p7 + (wrap64 ((wrap64 (b0 - b1)) * b2))))))) else none) else none)) else none))
noncomputable def cover_Often.l0 (K : Nat) (p0 : Int) (p4 : List (Int × Int × Int × Int)) (p5 : List (Int)) : Nat → (Int) → (Int) → Option (Int)
  | 0, _, _ => none
  | k + 1, x0, x1 => (if (decide (x0 < ((p5.length : Nat) : Int))) = true then (cover_Often.l1 K (fun y0 y1 => cover_Often.l0 K p0 p4 p5 k y0 y1) p0 p4 p5 x0 x1 K 0 []) else some x1)
noncomputable def cover_Often.f (K : Nat) (a0 : Int) (a1 : List (Int × Int × Int × Int)) : Option (Int) := ((xclo 32 a1).bind fun b0 => ((Hv.xdf b0).bind fun b1 => ((cover_columns.f K b1).bind fun b2 => (cover_Often.l0 K a0 b1 b2 K 1 0))))
noncomputable def cover_Often.app (K : Nat) : App := fun ps => (cover_Often.ra.de ps).bind fun x => (cover_Often.f K x.1 x.2).map cover_Often.rr.en
theorem cover_Often.ap (K : Nat) (a0 : Int) (a1 : List (Int × Int × Int × Int)) : cover_Often.app K [.int a0, .lst 4 (a1.map rw_iiii.en)] = (cover_Often.f K a0 a1).map cover_Often.rr.en := app_ap cover_Often.ra cover_Often.rr (fun x => cover_Often.f K x.1 x.2) (a0, a1)
theorem cover_Often.is : FnIs Try.prog 37 (.init cover_Often.sg) cover_Often.t cover_Often.cf := ⟨Try.f37, cover_Often.body, 6000, Try.func37, by kernel_rfl, rfl, rfl, by decide +kernel, by kernel_rfl⟩
theorem cover_Often.l1_den (F : FnE) (K : Nat) (h57 : F 57 = cover_columns.app K) (h58 : F 58 = cover_heights.app K) (h1000007 : F 1000007 = Hv.dfApp) (h1001037 : F 1001037 = (cloApp 32 4)) (Js : List (List PD → Option (List PD))) (J0 : List PD → Option (List PD)) (j0 : (Int) → (Int) → Option (Int)) (p0 : Int) (p1 : List (Int × Int × Int × Int)) (p2 : List (Int × Int × Int × Int)) (p3 : List (Int × Int × Int × Int)) (p4 : List (Int × Int × Int × Int)) (p5 : List (Int)) (p6 : Int) (p7 : Int) (hJ0 : ∀ (y0 : Int) (y1 : Int), J0 [.int p0, .lst 4 (p1.map rw_iiii.en), .lst 4 (p2.map rw_iiii.en), .lst 4 (p3.map rw_iiii.en), .lst 4 (p4.map rw_iiii.en), .lst 1 (p5.map rw_i.en), .int y0, .int y1] = (j0 y0 y1).map cover_Often.rr.en) : ∀ (k : Nat) (x0 : Int) (x1 : List (Int × Int × Int × Int)), iterF (fun J ρ' => den F K cover_Often.b1 (J :: J0 :: Js) ρ') k [.int p0, .lst 4 (p1.map rw_iiii.en), .lst 4 (p2.map rw_iiii.en), .lst 4 (p3.map rw_iiii.en), .lst 4 (p4.map rw_iiii.en), .lst 1 (p5.map rw_i.en), .int p6, .int p7, .int x0, .lst 4 (x1.map rw_iiii.en)] = (cover_Often.l1 K j0 p0 p4 p5 p6 p7 k x0 x1).map cover_Often.rr.en := by
  intro k
  induction k with
  | zero => intros; rfl
  | succ k ih =>
    intro x0 x1
    show Sy.den F K cover_Often.b1 (iterF (fun J ρ' => Sy.den F K cover_Often.b1 (J :: J0 :: Js) ρ') k :: J0 :: Js) [.int p0, .lst 4 (p1.map rw_iiii.en), .lst 4 (p2.map rw_iiii.en), .lst 4 (p3.map rw_iiii.en), .lst 4 (p4.map rw_iiii.en), .lst 1 (p5.map rw_i.en), .int p6, .int p7, .int x0, .lst 4 (x1.map rw_iiii.en)] = _
    revert ih
    generalize iterF (fun J ρ' => Sy.den F K cover_Often.b1 (J :: J0 :: Js) ρ') k = J1
    intro ih
    rw [cover_Often.l1]
    show Sy.den F K cover_Often.b1 _ [.int p0, .lst 4 (p1.map rw_iiii.en), .lst 4 (p2.map rw_iiii.en), .lst 4 (p3.map rw_iiii.en), .lst 4 (p4.map rw_iiii.en), .lst 1 (p5.map rw_i.en), .int p6, .int p7, .int x0, .lst 4 (x1.map rw_iiii.en)] = _
    unfold cover_Often.b1
    refine den_ite (b := (decide (x0 < ((p4.length : Nat) : Int)))) (by simp only [pds, PC.pd, E.ev, B.ev, SE.ev, LE.rows, lensEv, kSl_eq, kPt_eq, ov_prop, List.getElem?_cons_zero, List.getElem?_cons_succ, List.length_map, Nat.add_zero, Nat.zero_add, Option.bind_some, Option.map_some, if_true, Subtype.eta, mxi, mni, List.map_append, List.map_cons, List.map_nil, List.cons_append, List.nil_append, List.append_nil]) ?_ ?_
    refine den_ite (b := (decide (0 ≤ x0))) rfl ?_ ?_
    refine den_get (L := p4) (rw := rw_iiii) rfl rfl rfl fun b0 => ?_
    show Sy.den F K _ _ [.int p0, .lst 4 (p1.map rw_iiii.en), .lst 4 (p2.map rw_iiii.en), .lst 4 (p3.map rw_iiii.en), .lst 4 (p4.map rw_iiii.en), .lst 1 (p5.map rw_i.en), .int p6, .int p7, .int x0, .lst 4 (x1.map rw_iiii.en), .int b0.1, .int b0.2.1, .int b0.2.2.1, .int b0.2.2.2] = _
    refine den_ite (b := (decide (0 ≤ (wrap64 (p6 - 1))))) rfl ?_ ?_
    refine den_ite (b := (decide ((wrap64 (p6 - 1)) < ((p5.length : Nat) : Int)))) (by simp only [pds, PC.pd, E.ev, B.ev, SE.ev, LE.rows, lensEv, kSl_eq, kPt_eq, ov_prop, List.getElem?_cons_zero, List.getElem?_cons_succ, List.length_map, Nat.add_zero, Nat.zero_add, Option.bind_some, Option.map_some, if_true, Subtype.eta, mxi, mni, List.map_append, List.map_cons, List.map_nil, List.cons_append, List.nil_append, List.append_nil]) ?_ ?_
    refine den_get (L := p5) (rw := rw_i) rfl rfl rfl fun b1 => ?_
    show Sy.den F K _ _ [.int p0, .lst 4 (p1.map rw_iiii.en), .lst 4 (p2.map rw_iiii.en), .lst 4 (p3.map rw_iiii.en), .lst 4 (p4.map rw_iiii.en), .lst 1 (p5.map rw_i.en), .int p6, .int p7, .int x0, .lst 4 (x1.map rw_iiii.en), .int b0.1, .int b0.2.1, .int b0.2.2.1, .int b0.2.2.2, .int b1] = _
    refine den_ite (b := (decide (b0.1 ≤ b1))) rfl ?_ ?_
    refine den_ite (b := (decide (0 ≤ p6))) rfl ?_ ?_
    refine den_get (L := p5) (rw := rw_i) rfl rfl rfl fun b2 => ?_
    show Sy.den F K _ _ [.int p0, .lst 4 (p1.map rw_iiii.en), .lst 4 (p2.map rw_iiii.en), .lst 4 (p3.map rw_iiii.en), .lst 4 (p4.map rw_iiii.en), .lst 1 (p5.map rw_i.en), .int p6, .int p7, .int x0, .lst 4 (x1.map rw_iiii.en), .int b0.1, .int b0.2.1, .int b0.2.2.1, .int b0.2.2.2, .int b1, .int b2] = _
    refine den_ite (b := (decide (b2 ≤ b0.2.2.1))) rfl ?_ ?_
    refine den_ite (b := (decide (((x1.length + 1 : Nat) : Int) ≤ cap4398046511104))) (by simp only [pds, PC.pd, E.ev, B.ev, SE.ev, LE.rows, lensEv, kSl_eq, kPt_eq, ov_prop, List.getElem?_cons_zero, List.getElem?_cons_succ, List.length_map, Nat.add_zero, Nat.zero_add, Option.bind_some, Option.map_some, if_true, Subtype.eta, mxi, mni, List.map_append, List.map_cons, List.map_nil, List.cons_append, List.nil_append, List.append_nil]) ?_ ?_
    refine den_fix (rows := List.map rw_iiii.en (x1 ++ [(b0.1, b0.2.1, b0.2.2.1, b0.2.2.2)])) (by simp only [pds, PC.pd, E.ev, B.ev, SE.ev, LE.rows, lensEv, kSl_eq, kPt_eq, ov_prop, List.getElem?_cons_zero, List.getElem?_cons_succ, List.length_map, Nat.add_zero, Nat.zero_add, Option.bind_some, Option.map_some, if_true, Subtype.eta, mxi, mni, List.map_append, List.map_cons, List.map_nil, List.cons_append, List.nil_append, List.append_nil, rw_iiii_en]) ?_
    show Sy.den F K _ _ [.int p0, .lst 4 (p1.map rw_iiii.en), .lst 4 (p2.map rw_iiii.en), .lst 4 (p3.map rw_iiii.en), .lst 4 (p4.map rw_iiii.en), .lst 1 (p5.map rw_i.en), .int p6, .int p7, .int x0, .lst 4 (x1.map rw_iiii.en), .int b0.1, .int b0.2.1, .int b0.2.2.1, .int b0.2.2.2, .int b1, .int b2, .lst 4 ((x1 ++ [(b0.1, b0.2.1, b0.2.2.1, b0.2.2.2)]).map rw_iiii.en)] = _
    refine den_back (vs := [.int (wrap64 (x0 + 1)), .lst 4 ((x1 ++ [(b0.1, b0.2.1, b0.2.2.1, b0.2.2.2)]).map rw_iiii.en)]) (by simp only [pds, PC.pd, E.ev, B.ev, SE.ev, LE.rows, lensEv, kSl_eq, kPt_eq, ov_prop, List.getElem?_cons_zero, List.getElem?_cons_succ, List.length_map, Nat.add_zero, Nat.zero_add, Option.bind_some, Option.map_some, if_true, Subtype.eta, mxi, mni, List.map_append, List.map_cons, List.map_nil, List.cons_append, List.nil_append, List.append_nil]) rfl ?_
    exact ih (wrap64 (x0 + 1)) (x1 ++ [(b0.1, b0.2.1, b0.2.2.1, b0.2.2.2)])
    exact den_bad _ _ _ _ _
    refine den_back (vs := [.int (wrap64 (x0 + 1)), .lst 4 (x1.map rw_iiii.en)]) (by simp only [pds, PC.pd, E.ev, B.ev, SE.ev, LE.rows, lensEv, kSl_eq, kPt_eq, ov_prop, List.getElem?_cons_zero, List.getElem?_cons_succ, List.length_map, Nat.add_zero, Nat.zero_add, Option.bind_some, Option.map_some, if_true, Subtype.eta, mxi, mni, List.map_append, List.map_cons, List.map_nil, List.cons_append, List.nil_append, List.append_nil]) rfl ?_
    exact ih (wrap64 (x0 + 1)) x1
    exact den_bad _ _ _ _ _
    refine den_back (vs := [.int (wrap64 (x0 + 1)), .lst 4 (x1.map rw_iiii.en)]) (by simp only [pds, PC.pd, E.ev, B.ev, SE.ev, LE.rows, lensEv, kSl_eq, kPt_eq, ov_prop, List.getElem?_cons_zero, List.getElem?_cons_succ, List.length_map, Nat.add_zero, Nat.zero_add, Option.bind_some, Option.map_some, if_true, Subtype.eta, mxi, mni, List.map_append, List.map_cons, List.map_nil, List.cons_append, List.nil_append, List.append_nil]) rfl ?_
    exact ih (wrap64 (x0 + 1)) x1
    exact den_bad _ _ _ _ _
    exact den_bad _ _ _ _ _
    exact den_bad _ _ _ _ _
    refine den_ite (b := (decide (0 ≤ p6))) rfl ?_ ?_
    refine den_get (L := p5) (rw := rw_i) rfl rfl rfl fun b0 => ?_
    show Sy.den F K _ _ [.int p0, .lst 4 (p1.map rw_iiii.en), .lst 4 (p2.map rw_iiii.en), .lst 4 (p3.map rw_iiii.en), .lst 4 (p4.map rw_iiii.en), .lst 1 (p5.map rw_i.en), .int p6, .int p7, .int x0, .lst 4 (x1.map rw_iiii.en), .int b0] = _
    refine den_ite (b := (decide (0 ≤ (wrap64 (p6 - 1))))) rfl ?_ ?_
    refine den_ite (b := (decide ((wrap64 (p6 - 1)) < ((p5.length : Nat) : Int)))) (by simp only [pds, PC.pd, E.ev, B.ev, SE.ev, LE.rows, lensEv, kSl_eq, kPt_eq, ov_prop, List.getElem?_cons_zero, List.getElem?_cons_succ, List.length_map, Nat.add_zero, Nat.zero_add, Option.bind_some, Option.map_some, if_true, Subtype.eta, mxi, mni, List.map_append, List.map_cons, List.map_nil, List.cons_append, List.nil_append, List.append_nil]) ?_ ?_
    refine den_get (L := p5) (rw := rw_i) rfl rfl rfl fun b1 => ?_
    show Sy.den F K _ _ [.int p0, .lst 4 (p1.map rw_iiii.en), .lst 4 (p2.map rw_iiii.en), .lst 4 (p3.map rw_iiii.en), .lst 4 (p4.map rw_iiii.en), .lst 1 (p5.map rw_i.en), .int p6, .int p7, .int x0, .lst 4 (x1.map rw_iiii.en), .int b0, .int b1] = _
    refine den_fix (rows := List.map rw_iiii.en x1) (by simp only [pds, PC.pd, E.ev, B.ev, SE.ev, LE.rows, lensEv, kSl_eq, kPt_eq, ov_prop, List.getElem?_cons_zero, List.getElem?_cons_succ, List.length_map, Nat.add_zero, Nat.zero_add, Option.bind_some, Option.map_some, if_true, Subtype.eta, mxi, mni, List.map_append, List.map_cons, List.map_nil, List.cons_append, List.nil_append, List.append_nil, rw_iiii_en]) ?_
    show Sy.den F K _ _ [.int p0, .lst 4 (p1.map rw_iiii.en), .lst 4 (p2.map rw_iiii.en), .lst 4 (p3.map rw_iiii.en), .lst 4 (p4.map rw_iiii.en), .lst 1 (p5.map rw_i.en), .int p6, .int p7, .int x0, .lst 4 (x1.map rw_iiii.en), .int b0, .int b1, .lst 4 (x1.map rw_iiii.en)] = _
    refine den_ask (ps := [.int (mxi p0 1), .lst 4 (x1.map rw_iiii.en)]) (rr := cover_heights.rr) (G := cover_heights.f K (mxi p0 1) x1) (by rw [h58]; exact cover_heights.ap K (mxi p0 1) x1) (by simp only [pds, PC.pd, E.ev, B.ev, SE.ev, LE.rows, lensEv, kSl_eq, kPt_eq, ov_prop, List.getElem?_cons_zero, List.getElem?_cons_succ, List.length_map, Nat.add_zero, Nat.zero_add, Option.bind_some, Option.map_some, if_true, Subtype.eta, mxi, mni, List.map_append, List.map_cons, List.map_nil, List.cons_append, List.nil_append, List.append_nil]) rfl fun b2 => ?_
    show Sy.den F K _ _ [.int p0, .lst 4 (p1.map rw_iiii.en), .lst 4 (p2.map rw_iiii.en), .lst 4 (p3.map rw_iiii.en), .lst 4 (p4.map rw_iiii.en), .lst 1 (p5.map rw_i.en), .int p6, .int p7, .int x0, .lst 4 (x1.map rw_iiii.en), .int b0, .int b1, .lst 4 (x1.map rw_iiii.en), .int b2] = _
    refine den_back (vs := [.int (wrap64 (p6 + 1)), .int (wrap64 (p7 + (wrap64 ((wrap64 (b0 - b1)) * b2))))]) rfl rfl ?_
    exact hJ0 (wrap64 (p6 + 1)) (wrap64 (p7 + (wrap64 ((wrap64 (b0 - b1)) * b2))))
    exact den_bad _ _ _ _ _
    exact den_bad _ _ _ _ _
    exact den_bad _ _ _ _ _
theorem cover_Often.l0_den (F : FnE) (K : Nat) (h57 : F 57 = cover_columns.app K) (h58 : F 58 = cover_heights.app K) (h1000007 : F 1000007 = Hv.dfApp) (h1001037 : F 1001037 = (cloApp 32 4)) (Js : List (List PD → Option (List PD))) (p0 : Int) (p1 : List (Int × Int × Int × Int)) (p2 : List (Int × Int × Int × Int)) (p3 : List (Int × Int × Int × Int)) (p4 : List (Int × Int × Int × Int)) (p5 : List (Int)) : ∀ (k : Nat) (x0 : Int) (x1 : Int), iterF (fun J ρ' => den F K cover_Often.b0 (J :: Js) ρ') k [.int p0, .lst 4 (p1.map rw_iiii.en), .lst 4 (p2.map rw_iiii.en), .lst 4 (p3.map rw_iiii.en), .lst 4 (p4.map rw_iiii.en), .lst 1 (p5.map rw_i.en), .int x0, .int x1] = (cover_Often.l0 K p0 p4 p5 k x0 x1).map cover_Often.rr.en := by
  intro k
  induction k with
  | zero => intros; rfl
  | succ k ih =>
    intro x0 x1
    show Sy.den F K cover_Often.b0 (iterF (fun J ρ' => Sy.den F K cover_Often.b0 (J :: Js) ρ') k :: Js) [.int p0, .lst 4 (p1.map rw_iiii.en), .lst 4 (p2.map rw_iiii.en), .lst 4 (p3.map rw_iiii.en), .lst 4 (p4.map rw_iiii.en), .lst 1 (p5.map rw_i.en), .int x0, .int x1] = _
    revert ih
    generalize iterF (fun J ρ' => Sy.den F K cover_Often.b0 (J :: Js) ρ') k = J0
    intro ih
    rw [cover_Often.l0]
    show Sy.den F K cover_Often.b0 _ [.int p0, .lst 4 (p1.map rw_iiii.en), .lst 4 (p2.map rw_iiii.en), .lst 4 (p3.map rw_iiii.en), .lst 4 (p4.map rw_iiii.en), .lst 1 (p5.map rw_i.en), .int x0, .int x1] = _
    unfold cover_Often.b0
    refine den_ite (b := (decide (x0 < ((p5.length : Nat) : Int)))) (by simp only [pds, PC.pd, E.ev, B.ev, SE.ev, LE.rows, lensEv, kSl_eq, kPt_eq, ov_prop, List.getElem?_cons_zero, List.getElem?_cons_succ, List.length_map, Nat.add_zero, Nat.zero_add, Option.bind_some, Option.map_some, if_true, Subtype.eta, mxi, mni, List.map_append, List.map_cons, List.map_nil, List.cons_append, List.nil_append, List.append_nil]) ?_ ?_
    refine den_loop (vs := [.int 0, .lst 4 []]) (by simp only [pds, PC.pd, E.ev, B.ev, SE.ev, LE.rows, lensEv, kSl_eq, kPt_eq, ov_prop, List.getElem?_cons_zero, List.getElem?_cons_succ, List.length_map, Nat.add_zero, Nat.zero_add, Option.bind_some, Option.map_some, if_true, Subtype.eta, mxi, mni, List.map_append, List.map_cons, List.map_nil, List.cons_append, List.nil_append, List.append_nil]) ?_
    exact cover_Often.l1_den F K h57 h58 h1000007 h1001037 Js J0 (fun y0 y1 => cover_Often.l0 K p0 p4 p5 k y0 y1) p0 p1 p2 p3 p4 p5 x0 x1 ih K 0 []
    exact den_ret rfl
theorem cover_Often.den (F : FnE) (K : Nat) (h57 : F 57 = cover_columns.app K) (h58 : F 58 = cover_heights.app K) (h1000007 : F 1000007 = Hv.dfApp) (h1001037 : F 1001037 = (cloApp 32 4)) (a0 : Int) (a1 : List (Int × Int × Int × Int)) : Sy.den F K cover_Often.t [] [.int a0, .lst 4 (a1.map rw_iiii.en)] = (cover_Often.f K a0 a1).map cover_Often.rr.en := by
  unfold cover_Often.t cover_Often.f
  refine den_ask (ps := [.lst 4 (a1.map rw_iiii.en)]) (rr := rwL 37 4 rw_iiii rfl) (G := xclo 32 a1) (by rw [h1001037]; exact xclo_ap 32 37 4 rw_iiii rfl a1) (by simp only [pds, PC.pd, E.ev, B.ev, SE.ev, LE.rows, lensEv, kSl_eq, kPt_eq, ov_prop, List.getElem?_cons_zero, List.getElem?_cons_succ, List.length_map, Nat.add_zero, Nat.zero_add, Option.bind_some, Option.map_some, if_true, Subtype.eta, mxi, mni, List.map_append, List.map_cons, List.map_nil, List.cons_append, List.nil_append, List.append_nil]) rfl fun b0 => ?_
  show Sy.den F K _ _ [.int a0, .lst 4 (a1.map rw_iiii.en), .lst 4 (b0.map rw_iiii.en)] = _
  refine den_ask (ps := [.lst 4 (b0.map rw_iiii.en)]) (rr := rwL 37 4 rw_iiii rfl) (G := Hv.xdf b0) (by rw [h1000007]; exact Hv.xdf_ap 37 4 b0) (by simp only [pds, PC.pd, E.ev, B.ev, SE.ev, LE.rows, lensEv, kSl_eq, kPt_eq, ov_prop, List.getElem?_cons_zero, List.getElem?_cons_succ, List.length_map, Nat.add_zero, Nat.zero_add, Option.bind_some, Option.map_some, if_true, Subtype.eta, mxi, mni, List.map_append, List.map_cons, List.map_nil, List.cons_append, List.nil_append, List.append_nil]) rfl fun b1 => ?_
  show Sy.den F K _ _ [.int a0, .lst 4 (a1.map rw_iiii.en), .lst 4 (b0.map rw_iiii.en), .lst 4 (b1.map rw_iiii.en)] = _
  refine den_fix (rows := List.map rw_iiii.en b1) (by simp only [pds, PC.pd, E.ev, B.ev, SE.ev, LE.rows, lensEv, kSl_eq, kPt_eq, ov_prop, List.getElem?_cons_zero, List.getElem?_cons_succ, List.length_map, Nat.add_zero, Nat.zero_add, Option.bind_some, Option.map_some, if_true, Subtype.eta, mxi, mni, List.map_append, List.map_cons, List.map_nil, List.cons_append, List.nil_append, List.append_nil, rw_iiii_en]) ?_
  show Sy.den F K _ _ [.int a0, .lst 4 (a1.map rw_iiii.en), .lst 4 (b0.map rw_iiii.en), .lst 4 (b1.map rw_iiii.en), .lst 4 (b1.map rw_iiii.en)] = _
  refine den_ask (ps := [.lst 4 (b1.map rw_iiii.en)]) (rr := cover_columns.rr) (G := cover_columns.f K b1) (by rw [h57]; exact cover_columns.ap K b1) (by simp only [pds, PC.pd, E.ev, B.ev, SE.ev, LE.rows, lensEv, kSl_eq, kPt_eq, ov_prop, List.getElem?_cons_zero, List.getElem?_cons_succ, List.length_map, Nat.add_zero, Nat.zero_add, Option.bind_some, Option.map_some, if_true, Subtype.eta, mxi, mni, List.map_append, List.map_cons, List.map_nil, List.cons_append, List.nil_append, List.append_nil]) rfl fun b2 => ?_
  show Sy.den F K _ _ [.int a0, .lst 4 (a1.map rw_iiii.en), .lst 4 (b0.map rw_iiii.en), .lst 4 (b1.map rw_iiii.en), .lst 4 (b1.map rw_iiii.en), .lst 1 (b2.map rw_i.en)] = _
  refine den_loop (vs := [.int 1, .int 0]) rfl ?_
  exact cover_Often.l0_den F K h57 h58 h1000007 h1001037 [] a0 a1 b0 b1 b1 b2 K 1 0
theorem cover_Often.ok (F : FnE) (K : Nat) (h57 : F 57 = cover_columns.app K) (h58 : F 58 = cover_heights.app K) (h1000007 : F 1000007 = Hv.dfApp) (h1001037 : F 1001037 = (cloApp 32 4)) (ps r : List PD) (h : cover_Often.app K ps = some r) : Sy.den F K cover_Often.t [] ps = some r := by
  obtain ⟨a, rfl, h2⟩ := app_ok (ra := cover_Often.ra) (rr := cover_Often.rr) (f := fun x => cover_Often.f K x.1 x.2) h
  rw [← h2]
  exact cover_Often.den F K h57 h58 h1000007 h1001037 (a.1) (a.2)
noncomputable def l37 (K : Nat) : List (Nat × App) := (37, cover_Often.app K) :: l58 K
theorem gd37 (K : Nat) : Sy.Good Try.prog fns (mkF (l37 K)) := good_cons (K := K) cover_Often.is rfl (by kernel_rfl) (by decide +kernel) envOk relOk relNp mix (gd58 K) (exts_ok rfl rfl rfl rfl rfl rfl rfl rfl rfl) (cover_Often.ok _ K rfl rfl rfl rfl)
/-! ### cover_Area: function 35 -/
noncomputable def cover_Area.body : Code := Try.f35.body.getD .skip
noncomputable def cover_Area.sg : List S1 := [(.one (.l 37 4))]
noncomputable def cover_Area.sh : Sh := (.one (.one .i))
noncomputable def cover_Area.cf : Cfg := ⟨env, Try.f35.ntmps, Try.f35.results.toList, some cover_Area.sh, rel, [], [], (exts Try.f35.ntmps)⟩
noncomputable def cover_Area.t : Tree := (.ask 37 [(.ex (.nu 1)), (.li 0)] [.i] (.ret [(.ex (.va 1))]))
noncomputable def cover_Area.ra : Rw (List (Int × Int × Int × Int)) := (rwL 37 4 rw_iiii rfl)
noncomputable def cover_Area.rr : Rw (Int) := rwI
theorem cover_Area.rr_en (r : Int) : cover_Area.rr.en r = [.int r] := rfl
noncomputable def cover_Area.f (K : Nat) (a0 : List (Int × Int × Int × Int)) : Option (Int) := ((cover_Often.f K 1 a0).bind fun b0 => some b0)
noncomputable def cover_Area.app (K : Nat) : App := fun ps => (cover_Area.ra.de ps).bind fun x => (cover_Area.f K x).map cover_Area.rr.en
theorem cover_Area.ap (K : Nat) (a0 : List (Int × Int × Int × Int)) : cover_Area.app K [.lst 4 (a0.map rw_iiii.en)] = (cover_Area.f K a0).map cover_Area.rr.en := app_ap cover_Area.ra cover_Area.rr (fun x => cover_Area.f K x) (a0)
theorem cover_Area.is : FnIs Try.prog 35 (.init cover_Area.sg) cover_Area.t cover_Area.cf := ⟨Try.f35, cover_Area.body, 6000, Try.func35, by kernel_rfl, rfl, rfl, by decide +kernel, by kernel_rfl⟩
theorem cover_Area.den (F : FnE) (K : Nat) (h37 : F 37 = cover_Often.app K) (a0 : List (Int × Int × Int × Int)) : Sy.den F K cover_Area.t [] [.lst 4 (a0.map rw_iiii.en)] = (cover_Area.f K a0).map cover_Area.rr.en := by
  unfold cover_Area.t cover_Area.f
  refine den_ask (ps := [.int 1, .lst 4 (a0.map rw_iiii.en)]) (rr := cover_Often.rr) (G := cover_Often.f K 1 a0) (by rw [h37]; exact cover_Often.ap K 1 a0) (by simp only [pds, PC.pd, E.ev, B.ev, SE.ev, LE.rows, lensEv, kSl_eq, kPt_eq, ov_prop, List.getElem?_cons_zero, List.getElem?_cons_succ, List.length_map, Nat.add_zero, Nat.zero_add, Option.bind_some, Option.map_some, if_true, Subtype.eta, mxi, mni, List.map_append, List.map_cons, List.map_nil, List.cons_append, List.nil_append, List.append_nil]) rfl fun b0 => ?_
  show Sy.den F K _ _ [.lst 4 (a0.map rw_iiii.en), .int b0] = _
  exact den_ret rfl
theorem cover_Area.ok (F : FnE) (K : Nat) (h37 : F 37 = cover_Often.app K) (ps r : List PD) (h : cover_Area.app K ps = some r) : Sy.den F K cover_Area.t [] ps = some r := by
  obtain ⟨a, rfl, h2⟩ := app_ok (ra := cover_Area.ra) (rr := cover_Area.rr) (f := fun x => cover_Area.f K x) h
  rw [← h2]
  exact cover_Area.den F K h37 a
noncomputable def l35 (K : Nat) : List (Nat × App) := (35, cover_Area.app K) :: l37 K
theorem gd35 (K : Nat) : Sy.Good Try.prog fns (mkF (l35 K)) := good_cons (K := K) cover_Area.is rfl (by kernel_rfl) (by decide +kernel) envOk relOk relNp mix (gd37 K) (exts_ok rfl rfl rfl rfl rfl rfl rfl rfl rfl) (cover_Area.ok _ K rfl)
/-! ### gatherumlaw49_alive: function 33 -/
noncomputable def gatherumlaw49_alive.body : Code := Try.f33.body.getD .skip
noncomputable def gatherumlaw49_alive.sg : List S1 := []
noncomputable def gatherumlaw49_alive.sh : Sh := (.one (.one .b))
noncomputable def gatherumlaw49_alive.cf : Cfg := ⟨env, Try.f33.ntmps, Try.f33.results.toList, some gatherumlaw49_alive.sh, rel, [], [], (exts Try.f33.ntmps)⟩
noncomputable def gatherumlaw49_alive.t : Tree := (.fix [(.row [(.ex (.nu 0)), (.ex (.nu 0)), (.ex (.nu 4)), (.ex (.nu 4))]), (.row [(.ex (.nu 2)), (.ex (.nu 2)), (.ex (.nu 6)), (.ex (.nu 6))])] 4 (.ask 35 [(.li 0)] [.i] (.ite (.eq (.va 1) (.nu 28)) (.fix [(.row [(.ex (.nu 0)), (.ex (.nu 0)), (.ex (.nu 4)), (.ex (.nu 4))]), (.row [(.ex (.nu 2)), (.ex (.nu 2)), (.ex (.nu 6)), (.ex (.nu 6))])] 4 (.ask 37 [(.ex (.nu 2)), (.li 2)] [.i] (.ret [(.bo (.eq (.va 3) (.nu 4)))]))) (.ret [(.bo (.co false))]))))
noncomputable def gatherumlaw49_alive.ra : Rw (Unit) := rwU
noncomputable def gatherumlaw49_alive.rr : Rw (Bool) := rwB
theorem gatherumlaw49_alive.rr_en (r : Bool) : gatherumlaw49_alive.rr.en r = [.bool r] := rfl
noncomputable def gatherumlaw49_alive.f (K : Nat) : Option (Bool) := ((cover_Area.f K ((0, 0, 4, 4) :: [(2, 2, 6, 6)])).bind fun b0 => (if (b0 == 28) = true then ((cover_Often.f K 2 ((0, 0, 4, 4) :: [(2, 2, 6, 6)])).bind fun b1 => some (b1 == 4)) else some false))
noncomputable def gatherumlaw49_alive.app (K : Nat) : App := fun ps => (gatherumlaw49_alive.ra.de ps).bind fun x => (gatherumlaw49_alive.f K).map gatherumlaw49_alive.rr.en
theorem gatherumlaw49_alive.ap (K : Nat) : gatherumlaw49_alive.app K [] = (gatherumlaw49_alive.f K).map gatherumlaw49_alive.rr.en := app_ap gatherumlaw49_alive.ra gatherumlaw49_alive.rr (fun x => gatherumlaw49_alive.f K) ()
theorem gatherumlaw49_alive.is : FnIs Try.prog 33 (.init gatherumlaw49_alive.sg) gatherumlaw49_alive.t gatherumlaw49_alive.cf := ⟨Try.f33, gatherumlaw49_alive.body, 6000, Try.func33, by kernel_rfl, rfl, rfl, by decide +kernel, by kernel_rfl⟩
theorem gatherumlaw49_alive.den (F : FnE) (K : Nat) (h35 : F 35 = cover_Area.app K) (h37 : F 37 = cover_Often.app K) : Sy.den F K gatherumlaw49_alive.t [] [] = (gatherumlaw49_alive.f K).map gatherumlaw49_alive.rr.en := by
  unfold gatherumlaw49_alive.t gatherumlaw49_alive.f
  refine den_fix (rows := List.map rw_iiii.en ((0, 0, 4, 4) :: [(2, 2, 6, 6)])) (by simp only [pds, PC.pd, E.ev, B.ev, SE.ev, LE.rows, lensEv, kSl_eq, kPt_eq, ov_prop, List.getElem?_cons_zero, List.getElem?_cons_succ, List.length_map, Nat.add_zero, Nat.zero_add, Option.bind_some, Option.map_some, if_true, Subtype.eta, mxi, mni, List.map_append, List.map_cons, List.map_nil, List.cons_append, List.nil_append, List.append_nil, rw_iiii_en]) ?_
  show Sy.den F K _ _ [.lst 4 (((0, 0, 4, 4) :: [(2, 2, 6, 6)]).map rw_iiii.en)] = _
  refine den_ask (ps := [.lst 4 (((0, 0, 4, 4) :: [(2, 2, 6, 6)]).map rw_iiii.en)]) (rr := cover_Area.rr) (G := cover_Area.f K ((0, 0, 4, 4) :: [(2, 2, 6, 6)])) (by rw [h35]; exact cover_Area.ap K ((0, 0, 4, 4) :: [(2, 2, 6, 6)])) (by simp only [pds, PC.pd, E.ev, B.ev, SE.ev, LE.rows, lensEv, kSl_eq, kPt_eq, ov_prop, List.getElem?_cons_zero, List.getElem?_cons_succ, List.length_map, Nat.add_zero, Nat.zero_add, Option.bind_some, Option.map_some, if_true, Subtype.eta, mxi, mni, List.map_append, List.map_cons, List.map_nil, List.cons_append, List.nil_append, List.append_nil]) rfl fun b0 => ?_
  show Sy.den F K _ _ [.lst 4 (((0, 0, 4, 4) :: [(2, 2, 6, 6)]).map rw_iiii.en), .int b0] = _
  refine den_ite (b := (b0 == 28)) rfl ?_ ?_
  refine den_fix (rows := List.map rw_iiii.en ((0, 0, 4, 4) :: [(2, 2, 6, 6)])) (by simp only [pds, PC.pd, E.ev, B.ev, SE.ev, LE.rows, lensEv, kSl_eq, kPt_eq, ov_prop, List.getElem?_cons_zero, List.getElem?_cons_succ, List.length_map, Nat.add_zero, Nat.zero_add, Option.bind_some, Option.map_some, if_true, Subtype.eta, mxi, mni, List.map_append, List.map_cons, List.map_nil, List.cons_append, List.nil_append, List.append_nil, rw_iiii_en]) ?_
  show Sy.den F K _ _ [.lst 4 (((0, 0, 4, 4) :: [(2, 2, 6, 6)]).map rw_iiii.en), .int b0, .lst 4 (((0, 0, 4, 4) :: [(2, 2, 6, 6)]).map rw_iiii.en)] = _
  refine den_ask (ps := [.int 2, .lst 4 (((0, 0, 4, 4) :: [(2, 2, 6, 6)]).map rw_iiii.en)]) (rr := cover_Often.rr) (G := cover_Often.f K 2 ((0, 0, 4, 4) :: [(2, 2, 6, 6)])) (by rw [h37]; exact cover_Often.ap K 2 ((0, 0, 4, 4) :: [(2, 2, 6, 6)])) (by simp only [pds, PC.pd, E.ev, B.ev, SE.ev, LE.rows, lensEv, kSl_eq, kPt_eq, ov_prop, List.getElem?_cons_zero, List.getElem?_cons_succ, List.length_map, Nat.add_zero, Nat.zero_add, Option.bind_some, Option.map_some, if_true, Subtype.eta, mxi, mni, List.map_append, List.map_cons, List.map_nil, List.cons_append, List.nil_append, List.append_nil]) rfl fun b1 => ?_
  show Sy.den F K _ _ [.lst 4 (((0, 0, 4, 4) :: [(2, 2, 6, 6)]).map rw_iiii.en), .int b0, .lst 4 (((0, 0, 4, 4) :: [(2, 2, 6, 6)]).map rw_iiii.en), .int b1] = _
  exact den_ret rfl
  exact den_ret rfl
theorem gatherumlaw49_alive.ok (F : FnE) (K : Nat) (h35 : F 35 = cover_Area.app K) (h37 : F 37 = cover_Often.app K) (ps r : List PD) (h : gatherumlaw49_alive.app K ps = some r) : Sy.den F K gatherumlaw49_alive.t [] ps = some r := by
  obtain ⟨a, rfl, h2⟩ := app_ok (ra := gatherumlaw49_alive.ra) (rr := gatherumlaw49_alive.rr) (f := fun x => gatherumlaw49_alive.f K) h
  rw [← h2]
  exact gatherumlaw49_alive.den F K h35 h37
noncomputable def l33 (K : Nat) : List (Nat × App) := (33, gatherumlaw49_alive.app K) :: l35 K
theorem gd33 (K : Nat) : Sy.Good Try.prog fns (mkF (l33 K)) := good_cons (K := K) gatherumlaw49_alive.is rfl (by kernel_rfl) (by decide +kernel) envOk relOk relNp mix (gd35 K) (exts_ok rfl rfl rfl rfl rfl rfl rfl rfl rfl) (gatherumlaw49_alive.ok _ K rfl rfl)
/-! ### gatherumref01_In: function 54 -/
noncomputable def gatherumref01_In.body : Code := Try.f54.body.getD .skip
noncomputable def gatherumref01_In.sg : List S1 := [(.one .i), (.one .i), (.one .i)]
noncomputable def gatherumref01_In.sh : Sh := (.one (.one .b))
noncomputable def gatherumref01_In.cf : Cfg := ⟨env, Try.f54.ntmps, Try.f54.results.toList, some gatherumref01_In.sh, rel, [], [], (exts Try.f54.ntmps)⟩
noncomputable def gatherumref01_In.t : Tree := (.ite (.le (.va 1) (.va 0)) (.ret [(.bo (.le (.va 0) (.va 2)))]) (.ret [(.bo (.co false))]))
noncomputable def gatherumref01_In.ra : Rw (Int × Int × Int) := (rwP rwI (rwP rwI rwI))
noncomputable def gatherumref01_In.rr : Rw (Bool) := rwB
theorem gatherumref01_In.rr_en (r : Bool) : gatherumref01_In.rr.en r = [.bool r] := rfl
noncomputable def gatherumref01_In.f (a0 : Int) (a1 : Int) (a2 : Int) : Option (Bool) := (if (decide (a1 ≤ a0)) = true then some (decide (a0 ≤ a2)) else some false)
noncomputable def gatherumref01_In.app : App := fun ps => (gatherumref01_In.ra.de ps).bind fun x => (gatherumref01_In.f x.1 x.2.1 x.2.2).map gatherumref01_In.rr.en
theorem gatherumref01_In.ap (a0 : Int) (a1 : Int) (a2 : Int) : gatherumref01_In.app [.int a0, .int a1, .int a2] = (gatherumref01_In.f a0 a1 a2).map gatherumref01_In.rr.en := app_ap gatherumref01_In.ra gatherumref01_In.rr (fun x => gatherumref01_In.f x.1 x.2.1 x.2.2) (a0, a1, a2)
theorem gatherumref01_In.is : FnIs Try.prog 54 (.init gatherumref01_In.sg) gatherumref01_In.t gatherumref01_In.cf := ⟨Try.f54, gatherumref01_In.body, 6000, Try.func54, by kernel_rfl, rfl, rfl, by decide +kernel, by kernel_rfl⟩
theorem gatherumref01_In.den (F : FnE) (K : Nat) (a0 : Int) (a1 : Int) (a2 : Int) : Sy.den F K gatherumref01_In.t [] [.int a0, .int a1, .int a2] = (gatherumref01_In.f a0 a1 a2).map gatherumref01_In.rr.en := by
  unfold gatherumref01_In.t gatherumref01_In.f
  refine den_ite (b := (decide (a1 ≤ a0))) rfl ?_ ?_
  exact den_ret rfl
  exact den_ret rfl
theorem gatherumref01_In.ok (F : FnE) (K : Nat) (ps r : List PD) (h : gatherumref01_In.app ps = some r) : Sy.den F K gatherumref01_In.t [] ps = some r := by
  obtain ⟨a, rfl, h2⟩ := app_ok (ra := gatherumref01_In.ra) (rr := gatherumref01_In.rr) (f := fun x => gatherumref01_In.f x.1 x.2.1 x.2.2) h
  rw [← h2]
  exact gatherumref01_In.den F K (a.1) (a.2.1) (a.2.2)
noncomputable def l54 (K : Nat) : List (Nat × App) := (54, gatherumref01_In.app) :: l33 K
theorem gd54 (K : Nat) : Sy.Good Try.prog fns (mkF (l54 K)) := good_cons (K := K) gatherumref01_In.is rfl (by kernel_rfl) (by decide +kernel) envOk relOk relNp mix (gd33 K) (exts_ok rfl rfl rfl rfl rfl rfl rfl rfl rfl) (gatherumref01_In.ok _ K)
/-! ### gatherumlaw49_small: function 34 -/
noncomputable def gatherumlaw49_small.body : Code := Try.f34.body.getD .skip
noncomputable def gatherumlaw49_small.sg : List S1 := [(.one (.l 37 4))]
noncomputable def gatherumlaw49_small.sh : Sh := (.one (.one .b))
noncomputable def gatherumlaw49_small.cf : Cfg := ⟨env, Try.f34.ntmps, Try.f34.results.toList, some gatherumlaw49_small.sh, rel, [2], [((2, 130, 1), ⟨[], [], [(3, [(0, .i)])], []⟩)], (exts Try.f34.ntmps)⟩
noncomputable def gatherumlaw49_small.b0 : Tree := (.ite (.lt (.va 1) (.lens [0] 0)) (.ite (.le (.nu 0) (.va 1)) (.get 0 (.va 1) [.i, .i, .i, .i] (.ask 54 [(.ex (.va 2)), (.ex (.nu (-40))), (.ex (.nu 90))] [.b] (.ite (.not (.va 6)) (.ret [(.bo (.co false))]) (.ask 54 [(.ex (.va 3)), (.ex (.nu (-40))), (.ex (.nu 90))] [.b] (.ite (.not (.va 7)) (.ret [(.bo (.co false))]) (.ask 54 [(.ex (.va 4)), (.ex (.nu (-40))), (.ex (.nu 90))] [.b] (.ite (.not (.va 8)) (.ret [(.bo (.co false))]) (.ask 54 [(.ex (.va 5)), (.ex (.nu (-40))), (.ex (.nu 90))] [.b] (.ite (.not (.va 9)) (.ret [(.bo (.co false))]) (.back 0 1 [(.ex (.add (.va 1) (.nu 1)))])))))))))) .bad) (.ret [(.bo (.le (.lens [0] 0) (.nu 20)))]))
noncomputable def gatherumlaw49_small.t : Tree := (.loop [(.ex (.nu 0))] [.i] gatherumlaw49_small.b0)
noncomputable def gatherumlaw49_small.ra : Rw (List (Int × Int × Int × Int)) := (rwL 37 4 rw_iiii rfl)
noncomputable def gatherumlaw49_small.rr : Rw (Bool) := rwB
theorem gatherumlaw49_small.rr_en (r : Bool) : gatherumlaw49_small.rr.en r = [.bool r] := rfl
noncomputable def gatherumlaw49_small.l0 (p0 : List (Int × Int × Int × Int)) : Nat → (Int) → Option (Bool)
  | 0, _ => none
  | k + 1, x0 => (if (decide (x0 < ((p0.length : Nat) : Int))) = true then (if (decide (0 ≤ x0)) = true then ((p0[(x0 : Int).toNat]?).bind fun b0 => ((gatherumref01_In.f b0.1 (-40) 90).bind fun b1 => (if (!b1) = true then some false else ((gatherumref01_In.f b0.2.1 (-40) 90).bind fun b2 => (if (!b2) = true then some false else ((gatherumref01_In.f b0.2.2.1 (-40) 90).bind fun b3 => (if (!b3) = true then some false else ((gatherumref01_In.f b0.2.2.2 (-40) 90).bind fun b4 => (if (!b4) = true then some false else (gatherumlaw49_small.l0 p0 k (wrap64 (x0 + 1)))))))))))) else none) else some (decide (((p0.length : Nat) : Int) ≤ 20)))
noncomputable def gatherumlaw49_small.f (K : Nat) (a0 : List (Int × Int × Int × Int)) : Option (Bool) := (gatherumlaw49_small.l0 a0 K 0)
noncomputable def gatherumlaw49_small.app (K : Nat) : App := fun ps => (gatherumlaw49_small.ra.de ps).bind fun x => (gatherumlaw49_small.f K x).map gatherumlaw49_small.rr.en
theorem gatherumlaw49_small.ap (K : Nat) (a0 : List (Int × Int × Int × Int)) : gatherumlaw49_small.app K [.lst 4 (a0.map rw_iiii.en)] = (gatherumlaw49_small.f K a0).map gatherumlaw49_small.rr.en := app_ap gatherumlaw49_small.ra gatherumlaw49_small.rr (fun x => gatherumlaw49_small.f K x) (a0)
theorem gatherumlaw49_small.is : FnIs Try.prog 34 (.init gatherumlaw49_small.sg) gatherumlaw49_small.t gatherumlaw49_small.cf := ⟨Try.f34, gatherumlaw49_small.body, 6000, Try.func34, by kernel_rfl, rfl, rfl, by decide +kernel, by kernel_rfl⟩
theorem gatherumlaw49_small.l0_den (F : FnE) (K : Nat) (h54 : F 54 = gatherumref01_In.app) (Js : List (List PD → Option (List PD))) (p0 : List (Int × Int × Int × Int)) : ∀ (k : Nat) (x0 : Int), iterF (fun J ρ' => den F K gatherumlaw49_small.b0 (J :: Js) ρ') k [.lst 4 (p0.map rw_iiii.en), .int x0] = (gatherumlaw49_small.l0 p0 k x0).map gatherumlaw49_small.rr.en := by
  intro k
  induction k with
  | zero => intros; rfl
  | succ k ih =>
    intro x0
    show Sy.den F K gatherumlaw49_small.b0 (iterF (fun J ρ' => Sy.den F K gatherumlaw49_small.b0 (J :: Js) ρ') k :: Js) [.lst 4 (p0.map rw_iiii.en), .int x0] = _
    revert ih
    generalize iterF (fun J ρ' => Sy.den F K gatherumlaw49_small.b0 (J :: Js) ρ') k = J0
    intro ih
    rw [gatherumlaw49_small.l0]
    show Sy.den F K gatherumlaw49_small.b0 _ [.lst 4 (p0.map rw_iiii.en), .int x0] = _
    unfold gatherumlaw49_small.b0
    refine den_ite (b := (decide (x0 < ((p0.length : Nat) : Int)))) (by simp only [pds, PC.pd, E.ev, B.ev, SE.ev, LE.rows, lensEv, kSl_eq, kPt_eq, ov_prop, List.getElem?_cons_zero, List.getElem?_cons_succ, List.length_map, Nat.add_zero, Nat.zero_add, Option.bind_some, Option.map_some, if_true, Subtype.eta, mxi, mni, List.map_append, List.map_cons, List.map_nil, List.cons_append, List.nil_append, List.append_nil]) ?_ ?_
    refine den_ite (b := (decide (0 ≤ x0))) rfl ?_ ?_
    refine den_get (L := p0) (rw := rw_iiii) rfl rfl rfl fun b0 => ?_
    show Sy.den F K _ _ [.lst 4 (p0.map rw_iiii.en), .int x0, .int b0.1, .int b0.2.1, .int b0.2.2.1, .int b0.2.2.2] = _
    refine den_ask (ps := [.int b0.1, .int (-40), .int 90]) (rr := gatherumref01_In.rr) (G := gatherumref01_In.f b0.1 (-40) 90) (by rw [h54]; exact gatherumref01_In.ap b0.1 (-40) 90) rfl rfl fun b1 => ?_
    show Sy.den F K _ _ [.lst 4 (p0.map rw_iiii.en), .int x0, .int b0.1, .int b0.2.1, .int b0.2.2.1, .int b0.2.2.2, .bool b1] = _
    refine den_ite (b := (!b1)) rfl ?_ ?_
    exact den_ret rfl
    refine den_ask (ps := [.int b0.2.1, .int (-40), .int 90]) (rr := gatherumref01_In.rr) (G := gatherumref01_In.f b0.2.1 (-40) 90) (by rw [h54]; exact gatherumref01_In.ap b0.2.1 (-40) 90) rfl rfl fun b2 => ?_
    show Sy.den F K _ _ [.lst 4 (p0.map rw_iiii.en), .int x0, .int b0.1, .int b0.2.1, .int b0.2.2.1, .int b0.2.2.2, .bool b1, .bool b2] = _
    refine den_ite (b := (!b2)) rfl ?_ ?_
    exact den_ret rfl
    refine den_ask (ps := [.int b0.2.2.1, .int (-40), .int 90]) (rr := gatherumref01_In.rr) (G := gatherumref01_In.f b0.2.2.1 (-40) 90) (by rw [h54]; exact gatherumref01_In.ap b0.2.2.1 (-40) 90) rfl rfl fun b3 => ?_
    show Sy.den F K _ _ [.lst 4 (p0.map rw_iiii.en), .int x0, .int b0.1, .int b0.2.1, .int b0.2.2.1, .int b0.2.2.2, .bool b1, .bool b2, .bool b3] = _
    refine den_ite (b := (!b3)) rfl ?_ ?_
    exact den_ret rfl
    refine den_ask (ps := [.int b0.2.2.2, .int (-40), .int 90]) (rr := gatherumref01_In.rr) (G := gatherumref01_In.f b0.2.2.2 (-40) 90) (by rw [h54]; exact gatherumref01_In.ap b0.2.2.2 (-40) 90) rfl rfl fun b4 => ?_
    show Sy.den F K _ _ [.lst 4 (p0.map rw_iiii.en), .int x0, .int b0.1, .int b0.2.1, .int b0.2.2.1, .int b0.2.2.2, .bool b1, .bool b2, .bool b3, .bool b4] = _
    refine den_ite (b := (!b4)) rfl ?_ ?_
    exact den_ret rfl
    refine den_back (vs := [.int (wrap64 (x0 + 1))]) rfl rfl ?_
    exact ih (wrap64 (x0 + 1))
    exact den_bad _ _ _ _ _
    exact den_ret (by simp only [pds, PC.pd, E.ev, B.ev, SE.ev, LE.rows, lensEv, kSl_eq, kPt_eq, ov_prop, List.getElem?_cons_zero, List.getElem?_cons_succ, List.length_map, Nat.add_zero, Nat.zero_add, Option.bind_some, Option.map_some, if_true, Subtype.eta, mxi, mni, List.map_append, List.map_cons, List.map_nil, List.cons_append, List.nil_append, List.append_nil, gatherumlaw49_small.rr_en])
theorem gatherumlaw49_small.den (F : FnE) (K : Nat) (h54 : F 54 = gatherumref01_In.app) (a0 : List (Int × Int × Int × Int)) : Sy.den F K gatherumlaw49_small.t [] [.lst 4 (a0.map rw_iiii.en)] = (gatherumlaw49_small.f K a0).map gatherumlaw49_small.rr.en := by
  unfold gatherumlaw49_small.t gatherumlaw49_small.f
  refine den_loop (vs := [.int 0]) rfl ?_
  exact gatherumlaw49_small.l0_den F K h54 [] a0 K 0
theorem gatherumlaw49_small.ok (F : FnE) (K : Nat) (h54 : F 54 = gatherumref01_In.app) (ps r : List PD) (h : gatherumlaw49_small.app K ps = some r) : Sy.den F K gatherumlaw49_small.t [] ps = some r := by
  obtain ⟨a, rfl, h2⟩ := app_ok (ra := gatherumlaw49_small.ra) (rr := gatherumlaw49_small.rr) (f := fun x => gatherumlaw49_small.f K x) h
  rw [← h2]
  exact gatherumlaw49_small.den F K h54 a
noncomputable def l34 (K : Nat) : List (Nat × App) := (34, gatherumlaw49_small.app K) :: l54 K
theorem gd34 (K : Nat) : Sy.Good Try.prog fns (mkF (l34 K)) := good_cons (K := K) gatherumlaw49_small.is rfl (by kernel_rfl) (by decide +kernel) envOk relOk relNp mix (gd54 K) (exts_ok rfl rfl rfl rfl rfl rfl rfl rfl rfl) (gatherumlaw49_small.ok _ K rfl)
/-! ### gatherumlaw49_squares: function 36 -/
noncomputable def gatherumlaw49_squares.body : Code := Try.f36.body.getD .skip
noncomputable def gatherumlaw49_squares.sg : List S1 := [(.one .i), (.one (.l 37 4))]
noncomputable def gatherumlaw49_squares.sh : Sh := (.one (.one .i))
noncomputable def gatherumlaw49_squares.cf : Cfg := ⟨env, Try.f36.ntmps, Try.f36.results.toList, some gatherumlaw49_squares.sh, rel, [3, 6, 10], [((10, 643, 2), ⟨[], [], [(9, [(0, .i), (0, .i), (0, .i), (0, .i), (0, .i)]), (8, [(0, .i)])], []⟩), ((6, 387, 2), ⟨[], [], [(7, [(0, .i), (0, .i)]), (5, [(0, .i)])], []⟩), ((10, 645, 4), ⟨[], [], [(9, [(0, .i), (0, .i), (0, .i), (0, .i), (0, .i)]), (8, [(0, .i)])], []⟩), ((3, 195, 2), ⟨[], [], [(6, [(0, .i)]), (5, [(0, .i)])], []⟩), ((6, 389, 4), ⟨[], [], [(7, [(0, .i), (0, .i)]), (5, [(0, .i)])], []⟩), ((10, 647, 6), ⟨[], [], [(9, [(0, .i), (0, .i), (0, .i), (0, .i), (0, .i)]), (8, [(0, .i)])], []⟩)], (exts Try.f36.ntmps)⟩
noncomputable def gatherumlaw49_squares.b2 : Tree := (.ite (.lt (.va 6) (.lens [1] 0)) (.ite (.le (.nu 0) (.va 6)) (.get 1 (.va 6) [.i, .i, .i, .i] (.ite (.le (.va 8) (.va 2)) (.ite (.lt (.va 2) (.va 10)) (.ite (.le (.va 9) (.va 4)) (.ite (.lt (.va 4) (.va 11)) (.back 0 6 [(.ex (.add (.va 6) (.nu 1))), (.ex (.add (.va 7) (.nu 1)))]) (.back 0 6 [(.ex (.add (.va 6) (.nu 1))), (.ex (.va 7))])) (.back 0 6 [(.ex (.add (.va 6) (.nu 1))), (.ex (.va 7))])) (.back 0 6 [(.ex (.add (.va 6) (.nu 1))), (.ex (.va 7))])) (.back 0 6 [(.ex (.add (.va 6) (.nu 1))), (.ex (.va 7))]))) .bad) (.ite (.le (.va 0) (.va 7)) (.back 1 4 [(.ex (.add (.va 4) (.nu 1))), (.ex (.add (.va 5) (.nu 1)))]) (.back 1 4 [(.ex (.add (.va 4) (.nu 1))), (.ex (.va 5))])))
noncomputable def gatherumlaw49_squares.b1 : Tree := (.ite (.lt (.va 4) (.nu 90)) (.loop [(.ex (.nu 0)), (.ex (.nu 0))] [.i, .i] gatherumlaw49_squares.b2) (.back 1 2 [(.ex (.add (.va 2) (.nu 1))), (.ex (.va 5))]))
noncomputable def gatherumlaw49_squares.b0 : Tree := (.ite (.lt (.va 2) (.nu 90)) (.loop [(.ex (.nu (-40))), (.ex (.va 3))] [.i, .i] gatherumlaw49_squares.b1) (.ret [(.ex (.va 3))]))
noncomputable def gatherumlaw49_squares.t : Tree := (.loop [(.ex (.nu (-40))), (.ex (.nu 0))] [.i, .i] gatherumlaw49_squares.b0)
noncomputable def gatherumlaw49_squares.ra : Rw (Int × (List (Int × Int × Int × Int))) := (rwP rwI (rwL 37 4 rw_iiii rfl))
noncomputable def gatherumlaw49_squares.rr : Rw (Int) := rwI
theorem gatherumlaw49_squares.rr_en (r : Int) : gatherumlaw49_squares.rr.en r = [.int r] := rfl
noncomputable def gatherumlaw49_squares.l2 (j1 : (Int) → (Int) → Option (Int)) (p0 : Int) (p1 : List (Int × Int × Int × Int)) (p2 : Int) (p4 : Int) (p5 : Int) : Nat → (Int) → (Int) → Option (Int)
  | 0, _, _ => none
  | k + 1, x0, x1 => (if (decide (x0 < ((p1.length : Nat) : Int))) = true then (if (decide (0 ≤ x0)) = true then ((p1[(x0 : Int).toNat]?).bind fun b0 => (if (decide (b0.1 ≤ p2)) = true then (if (decide (p2 < b0.2.2.1)) = true then (if (decide (b0.2.1 ≤ p4)) = true then (if (decide (p4 < b0.2.2.2)) = true then (gatherumlaw49_squares.l2 j1 p0 p1 p2 p4 p5 k (wrap64 (x0 + 1)) (wrap64 (x1 + 1))) else (gatherumlaw49_squares.l2 j1 p0 p1 p2 p4 p5 k (wrap64 (x0 + 1)) x1)) else (gatherumlaw49_squares.l2 j1 p0 p1 p2 p4 p5 k (wrap64 (x0 + 1)) x1)) else (gatherumlaw49_squares.l2 j1 p0 p1 p2 p4 p5 k (wrap64 (x0 + 1)) x1)) else (gatherumlaw49_squares.l2 j1 p0 p1 p2 p4 p5 k (wrap64 (x0 + 1)) x1))) else none) else (if (decide (p0 ≤ x1)) = true then (j1 (wrap64 (p4 + 1)) (wrap64 (p5 + 1))) else (j1 (wrap64 (p4 + 1)) p5)))
noncomputable def gatherumlaw49_squares.l1 (K : Nat) (j0 : (Int) → (Int) → Option (Int)) (p0 : Int) (p1 : List (Int × Int × Int × Int)) (p2 : Int) : Nat → (Int) → (Int) → Option (Int)
  | 0, _, _ => none
  | k + 1, x0, x1 => (if (decide (x0 < 90)) = true then (gatherumlaw49_squares.l2 (fun y0 y1 => gatherumlaw49_squares.l1 K j0 p0 p1 p2 k y0 y1) p0 p1 p2 x0 x1 K 0 0) else (j0 (wrap64 (p2 + 1)) x1))
noncomputable def gatherumlaw49_squares.l0 (K : Nat) (p0 : Int) (p1 : List (Int × Int × Int × Int)) : Nat → (Int) → (Int) → Option (Int)
  | 0, _, _ => none
  | k + 1, x0, x1 => (if (decide (x0 < 90)) = true then (gatherumlaw49_squares.l1 K (fun y0 y1 => gatherumlaw49_squares.l0 K p0 p1 k y0 y1) p0 p1 x0 K (-40) x1) else some x1)
noncomputable def gatherumlaw49_squares.f (K : Nat) (a0 : Int) (a1 : List (Int × Int × Int × Int)) : Option (Int) := (gatherumlaw49_squares.l0 K a0 a1 K (-40) 0)
noncomputable def gatherumlaw49_squares.app (K : Nat) : App := fun ps => (gatherumlaw49_squares.ra.de ps).bind fun x => (gatherumlaw49_squares.f K x.1 x.2).map gatherumlaw49_squares.rr.en
theorem gatherumlaw49_squares.ap (K : Nat) (a0 : Int) (a1 : List (Int × Int × Int × Int)) : gatherumlaw49_squares.app K [.int a0, .lst 4 (a1.map rw_iiii.en)] = (gatherumlaw49_squares.f K a0 a1).map gatherumlaw49_squares.rr.en := app_ap gatherumlaw49_squares.ra gatherumlaw49_squares.rr (fun x => gatherumlaw49_squares.f K x.1 x.2) (a0, a1)
theorem gatherumlaw49_squares.is : FnIs Try.prog 36 (.init gatherumlaw49_squares.sg) gatherumlaw49_squares.t gatherumlaw49_squares.cf := ⟨Try.f36, gatherumlaw49_squares.body, 6000, Try.func36, by kernel_rfl, rfl, rfl, by decide +kernel, by kernel_rfl⟩
theorem gatherumlaw49_squares.l2_den (F : FnE) (K : Nat) (Js : List (List PD → Option (List PD))) (J0 : List PD → Option (List PD)) (j0 : (Int) → (Int) → Option (Int)) (J1 : List PD → Option (List PD)) (j1 : (Int) → (Int) → Option (Int)) (p0 : Int) (p1 : List (Int × Int × Int × Int)) (p2 : Int) (p3 : Int) (p4 : Int) (p5 : Int) (hJ0 : ∀ (y0 : Int) (y1 : Int), J0 [.int p0, .lst 4 (p1.map rw_iiii.en), .int y0, .int y1] = (j0 y0 y1).map gatherumlaw49_squares.rr.en) (hJ1 : ∀ (y0 : Int) (y1 : Int), J1 [.int p0, .lst 4 (p1.map rw_iiii.en), .int p2, .int p3, .int y0, .int y1] = (j1 y0 y1).map gatherumlaw49_squares.rr.en) : ∀ (k : Nat) (x0 : Int) (x1 : Int), iterF (fun J ρ' => den F K gatherumlaw49_squares.b2 (J :: J1 :: J0 :: Js) ρ') k [.int p0, .lst 4 (p1.map rw_iiii.en), .int p2, .int p3, .int p4, .int p5, .int x0, .int x1] = (gatherumlaw49_squares.l2 j1 p0 p1 p2 p4 p5 k x0 x1).map gatherumlaw49_squares.rr.en := by
  intro k
  induction k with
  | zero => intros; rfl
  | succ k ih =>
    intro x0 x1
    show Sy.den F K gatherumlaw49_squares.b2 (iterF (fun J ρ' => Sy.den F K gatherumlaw49_squares.b2 (J :: J1 :: J0 :: Js) ρ') k :: J1 :: J0 :: Js) [.int p0, .lst 4 (p1.map rw_iiii.en), .int p2, .int p3, .int p4, .int p5, .int x0, .int x1] = _
    revert ih
    generalize iterF (fun J ρ' => Sy.den F K gatherumlaw49_squares.b2 (J :: J1 :: J0 :: Js) ρ') k = J2
    intro ih
    rw [gatherumlaw49_squares.l2]
    show Sy.den F K gatherumlaw49_squares.b2 _ [.int p0, .lst 4 (p1.map rw_iiii.en), .int p2, .int p3, .int p4, .int p5, .int x0, .int x1] = _
    unfold gatherumlaw49_squares.b2
    refine den_ite (b := (decide (x0 < ((p1.length : Nat) : Int)))) (by simp only [pds, PC.pd, E.ev, B.ev, SE.ev, LE.rows, lensEv, kSl_eq, kPt_eq, ov_prop, List.getElem?_cons_zero, List.getElem?_cons_succ, List.length_map, Nat.add_zero, Nat.zero_add, Option.bind_some, Option.map_some, if_true, Subtype.eta, mxi, mni, List.map_append, List.map_cons, List.map_nil, List.cons_append, List.nil_append, List.append_nil]) ?_ ?_
    refine den_ite (b := (decide (0 ≤ x0))) rfl ?_ ?_
    refine den_get (L := p1) (rw := rw_iiii) rfl rfl rfl fun b0 => ?_
    show Sy.den F K _ _ [.int p0, .lst 4 (p1.map rw_iiii.en), .int p2, .int p3, .int p4, .int p5, .int x0, .int x1, .int b0.1, .int b0.2.1, .int b0.2.2.1, .int b0.2.2.2] = _
    refine den_ite (b := (decide (b0.1 ≤ p2))) rfl ?_ ?_
    refine den_ite (b := (decide (p2 < b0.2.2.1))) rfl ?_ ?_
    refine den_ite (b := (decide (b0.2.1 ≤ p4))) rfl ?_ ?_
    refine den_ite (b := (decide (p4 < b0.2.2.2))) rfl ?_ ?_
    refine den_back (vs := [.int (wrap64 (x0 + 1)), .int (wrap64 (x1 + 1))]) rfl rfl ?_
    exact ih (wrap64 (x0 + 1)) (wrap64 (x1 + 1))
    refine den_back (vs := [.int (wrap64 (x0 + 1)), .int x1]) rfl rfl ?_
    exact ih (wrap64 (x0 + 1)) x1
    refine den_back (vs := [.int (wrap64 (x0 + 1)), .int x1]) rfl rfl ?_
    exact ih (wrap64 (x0 + 1)) x1
    refine den_back (vs := [.int (wrap64 (x0 + 1)), .int x1]) rfl rfl ?_
    exact ih (wrap64 (x0 + 1)) x1
    refine den_back (vs := [.int (wrap64 (x0 + 1)), .int x1]) rfl rfl ?_
    exact ih (wrap64 (x0 + 1)) x1
    exact den_bad _ _ _ _ _
    refine den_ite (b := (decide (p0 ≤ x1))) rfl ?_ ?_
    refine den_back (vs := [.int (wrap64 (p4 + 1)), .int (wrap64 (p5 + 1))]) rfl rfl ?_
    exact hJ1 (wrap64 (p4 + 1)) (wrap64 (p5 + 1))
    refine den_back (vs := [.int (wrap64 (p4 + 1)), .int p5]) rfl rfl ?_
    exact hJ1 (wrap64 (p4 + 1)) p5
theorem gatherumlaw49_squares.l1_den (F : FnE) (K : Nat) (Js : List (List PD → Option (List PD))) (J0 : List PD → Option (List PD)) (j0 : (Int) → (Int) → Option (Int)) (p0 : Int) (p1 : List (Int × Int × Int × Int)) (p2 : Int) (p3 : Int) (hJ0 : ∀ (y0 : Int) (y1 : Int), J0 [.int p0, .lst 4 (p1.map rw_iiii.en), .int y0, .int y1] = (j0 y0 y1).map gatherumlaw49_squares.rr.en) : ∀ (k : Nat) (x0 : Int) (x1 : Int), iterF (fun J ρ' => den F K gatherumlaw49_squares.b1 (J :: J0 :: Js) ρ') k [.int p0, .lst 4 (p1.map rw_iiii.en), .int p2, .int p3, .int x0, .int x1] = (gatherumlaw49_squares.l1 K j0 p0 p1 p2 k x0 x1).map gatherumlaw49_squares.rr.en := by
  intro k
  induction k with
  | zero => intros; rfl
  | succ k ih =>
    intro x0 x1
    show Sy.den F K gatherumlaw49_squares.b1 (iterF (fun J ρ' => Sy.den F K gatherumlaw49_squares.b1 (J :: J0 :: Js) ρ') k :: J0 :: Js) [.int p0, .lst 4 (p1.map rw_iiii.en), .int p2, .int p3, .int x0, .int x1] = _
    revert ih
    generalize iterF (fun J ρ' => Sy.den F K gatherumlaw49_squares.b1 (J :: J0 :: Js) ρ') k = J1
    intro ih
    rw [gatherumlaw49_squares.l1]
    show Sy.den F K gatherumlaw49_squares.b1 _ [.int p0, .lst 4 (p1.map rw_iiii.en), .int p2, .int p3, .int x0, .int x1] = _
    unfold gatherumlaw49_squares.b1
    refine den_ite (b := (decide (x0 < 90))) rfl ?_ ?_
    refine den_loop (vs := [.int 0, .int 0]) rfl ?_
    exact gatherumlaw49_squares.l2_den F K Js J0 j0 J1 (fun y0 y1 => gatherumlaw49_squares.l1 K j0 p0 p1 p2 k y0 y1) p0 p1 p2 p3 x0 x1 hJ0 ih K 0 0
    refine den_back (vs := [.int (wrap64 (p2 + 1)), .int x1]) rfl rfl ?_
    exact hJ0 (wrap64 (p2 + 1)) x1
theorem gatherumlaw49_squares.l0_den (F : FnE) (K : Nat) (Js : List (List PD → Option (List PD))) (p0 : Int) (p1 : List (Int × Int × Int × Int)) : ∀ (k : Nat) (x0 : Int) (x1 : Int), iterF (fun J ρ' => den F K gatherumlaw49_squares.b0 (J :: Js) ρ') k [.int p0, .lst 4 (p1.map rw_iiii.en), .int x0, .int x1] = (gatherumlaw49_squares.l0 K p0 p1 k x0 x1).map gatherumlaw49_squares.rr.en := by
  intro k
  induction k with
  | zero => intros; rfl
  | succ k ih =>
    intro x0 x1
    show Sy.den F K gatherumlaw49_squares.b0 (iterF (fun J ρ' => Sy.den F K gatherumlaw49_squares.b0 (J :: Js) ρ') k :: Js) [.int p0, .lst 4 (p1.map rw_iiii.en), .int x0, .int x1] = _
    revert ih
    generalize iterF (fun J ρ' => Sy.den F K gatherumlaw49_squares.b0 (J :: Js) ρ') k = J0
    intro ih
    rw [gatherumlaw49_squares.l0]
    show Sy.den F K gatherumlaw49_squares.b0 _ [.int p0, .lst 4 (p1.map rw_iiii.en), .int x0, .int x1] = _
    unfold gatherumlaw49_squares.b0
    refine den_ite (b := (decide (x0 < 90))) rfl ?_ ?_
    refine den_loop (vs := [.int (-40), .int x1]) rfl ?_
    exact gatherumlaw49_squares.l1_den F K Js J0 (fun y0 y1 => gatherumlaw49_squares.l0 K p0 p1 k y0 y1) p0 p1 x0 x1 ih K (-40) x1
    exact den_ret rfl
theorem gatherumlaw49_squares.den (F : FnE) (K : Nat) (a0 : Int) (a1 : List (Int × Int × Int × Int)) : Sy.den F K gatherumlaw49_squares.t [] [.int a0, .lst 4 (a1.map rw_iiii.en)] = (gatherumlaw49_squares.f K a0 a1).map gatherumlaw49_squares.rr.en := by
  unfold gatherumlaw49_squares.t gatherumlaw49_squares.f
  refine den_loop (vs := [.int (-40), .int 0]) rfl ?_
  exact gatherumlaw49_squares.l0_den F K [] a0 a1 K (-40) 0
theorem gatherumlaw49_squares.ok (F : FnE) (K : Nat) (ps r : List PD) (h : gatherumlaw49_squares.app K ps = some r) : Sy.den F K gatherumlaw49_squares.t [] ps = some r := by
  obtain ⟨a, rfl, h2⟩ := app_ok (ra := gatherumlaw49_squares.ra) (rr := gatherumlaw49_squares.rr) (f := fun x => gatherumlaw49_squares.f K x.1 x.2) h
  rw [← h2]
  exact gatherumlaw49_squares.den F K (a.1) (a.2)
noncomputable def l36 (K : Nat) : List (Nat × App) := (36, gatherumlaw49_squares.app K) :: l34 K
theorem gd36 (K : Nat) : Sy.Good Try.prog fns (mkF (l36 K)) := good_cons (K := K) gatherumlaw49_squares.is rfl (by kernel_rfl) (by decide +kernel) envOk relOk relNp mix (gd34 K) (exts_ok rfl rfl rfl rfl rfl rfl rfl rfl rfl) (gatherumlaw49_squares.ok _ K)
/-! ### gatherumlaw49_CoverCounts: function 9 -/
noncomputable def gatherumlaw49_CoverCounts.body : Code := Try.f9.body.getD .skip
noncomputable def gatherumlaw49_CoverCounts.sg : List S1 := [(.one (.l 37 4)), (.one .i)]
noncomputable def gatherumlaw49_CoverCounts.sh : Sh := (.one (.one .b))
noncomputable def gatherumlaw49_CoverCounts.cf : Cfg := ⟨env, Try.f9.ntmps, Try.f9.results.toList, some gatherumlaw49_CoverCounts.sh, rel, [], [], (exts Try.f9.ntmps)⟩
noncomputable def gatherumlaw49_CoverCounts.t : Tree := (.ask 33 [] [.b] (.ite (.not (.va 2)) (.ret [(.bo (.co false))]) (.ask 34 [(.li 0)] [.b] (.ite (.not (.va 3)) (.ret [(.bo (.co true))]) (.ite (.lt (.va 1) (.nu 1)) (.ask 35 [(.li 0)] [.i] (.ask 36 [(.ex (.nu 1)), (.li 0)] [.i] (.ite (.eq (.va 4) (.va 5)) (.ask 37 [(.ex (.va 1)), (.li 0)] [.i] (.ret [(.bo (.eq (.va 6) (.va 5)))])) (.ret [(.bo (.co false))])))) (.ask 35 [(.li 0)] [.i] (.ask 36 [(.ex (.nu 1)), (.li 0)] [.i] (.ite (.eq (.va 4) (.va 5)) (.ask 37 [(.ex (.va 1)), (.li 0)] [.i] (.ask 36 [(.ex (.va 1)), (.li 0)] [.i] (.ret [(.bo (.eq (.va 6) (.va 7)))]))) (.ret [(.bo (.co false))])))))))))
noncomputable def gatherumlaw49_CoverCounts.ra : Rw ((List (Int × Int × Int × Int)) × Int) := (rwP (rwL 37 4 rw_iiii rfl) rwI)
noncomputable def gatherumlaw49_CoverCounts.rr : Rw (Bool) := rwB
theorem gatherumlaw49_CoverCounts.rr_en (r : Bool) : gatherumlaw49_CoverCounts.rr.en r = [.bool r] := rfl
noncomputable def gatherumlaw49_CoverCounts.f (K : Nat) (a0 : List (Int × Int × Int × Int)) (a1 : Int) : Option (Bool) := ((gatherumlaw49_alive.f K).bind fun b0 => (if (!b0) = true then some false else ((gatherumlaw49_small.f K a0).bind fun b1 => (if (!b1) = true then some true else (if (decide (a1 < 1)) = true then ((cover_Area.f K a0).bind fun b2 => ((gatherumlaw49_squares.f K 1 a0).bind fun b3 => (if (b2 == b3) = true then ((cover_Often.f K a1 a0).bind fun b4 => some (b4 == b3)) else some false))) else ((cover_Area.f K a0).bind fun b2 => ((gatherumlaw49_squares.f K 1 a0).bind fun b3 => (if (b2 == b3) = true then ((cover_Often.f K a1 a0).bind fun b4 => ((gatherumlaw49_squares.f K a1 a0).bind fun b5 => some (b4 == b5))) else some false))))))))
noncomputable def gatherumlaw49_CoverCounts.app (K : Nat) : App := fun ps => (gatherumlaw49_CoverCounts.ra.de ps).bind fun x => (gatherumlaw49_CoverCounts.f K x.1 x.2).map gatherumlaw49_CoverCounts.rr.en
theorem gatherumlaw49_CoverCounts.ap (K : Nat) (a0 : List (Int × Int × Int × Int)) (a1 : Int) : gatherumlaw49_CoverCounts.app K [.lst 4 (a0.map rw_iiii.en), .int a1] = (gatherumlaw49_CoverCounts.f K a0 a1).map gatherumlaw49_CoverCounts.rr.en := app_ap gatherumlaw49_CoverCounts.ra gatherumlaw49_CoverCounts.rr (fun x => gatherumlaw49_CoverCounts.f K x.1 x.2) (a0, a1)
theorem gatherumlaw49_CoverCounts.is : FnIs Try.prog 9 (.init gatherumlaw49_CoverCounts.sg) gatherumlaw49_CoverCounts.t gatherumlaw49_CoverCounts.cf := ⟨Try.f9, gatherumlaw49_CoverCounts.body, 6000, Try.func9, by kernel_rfl, rfl, rfl, by decide +kernel, by kernel_rfl⟩
theorem gatherumlaw49_CoverCounts.den (F : FnE) (K : Nat) (h33 : F 33 = gatherumlaw49_alive.app K) (h34 : F 34 = gatherumlaw49_small.app K) (h35 : F 35 = cover_Area.app K) (h36 : F 36 = gatherumlaw49_squares.app K) (h37 : F 37 = cover_Often.app K) (a0 : List (Int × Int × Int × Int)) (a1 : Int) : Sy.den F K gatherumlaw49_CoverCounts.t [] [.lst 4 (a0.map rw_iiii.en), .int a1] = (gatherumlaw49_CoverCounts.f K a0 a1).map gatherumlaw49_CoverCounts.rr.en := by
  unfold gatherumlaw49_CoverCounts.t gatherumlaw49_CoverCounts.f
  refine den_ask (ps := []) (rr := gatherumlaw49_alive.rr) (G := gatherumlaw49_alive.f K) (by rw [h33]; exact gatherumlaw49_alive.ap K) rfl rfl fun b0 => ?_
  show Sy.den F K _ _ [.lst 4 (a0.map rw_iiii.en), .int a1, .bool b0] = _
  refine den_ite (b := (!b0)) rfl ?_ ?_
  exact den_ret rfl
  refine den_ask (ps := [.lst 4 (a0.map rw_iiii.en)]) (rr := gatherumlaw49_small.rr) (G := gatherumlaw49_small.f K a0) (by rw [h34]; exact gatherumlaw49_small.ap K a0) (by simp only [pds, PC.pd, E.ev, B.ev, SE.ev, LE.rows, lensEv, kSl_eq, kPt_eq, ov_prop, List.getElem?_cons_zero, List.getElem?_cons_succ, List.length_map, Nat.add_zero, Nat.zero_add, Option.bind_some, Option.map_some, if_true, Subtype.eta, mxi, mni, List.map_append, List.map_cons, List.map_nil, List.cons_append, List.nil_append, List.append_nil]) rfl fun b1 => ?_
  show Sy.den F K _ _ [.lst 4 (a0.map rw_iiii.en), .int a1, .bool b0, .bool b1] = _
  refine den_ite (b := (!b1)) rfl ?_ ?_
  exact den_ret rfl
  refine den_ite (b := (decide (a1 < 1))) rfl ?_ ?_
  refine den_ask (ps := [.lst 4 (a0.map rw_iiii.en)]) (rr := cover_Area.rr) (G := cover_Area.f K a0) (by rw [h35]; exact cover_Area.ap K a0) (by simp only [pds, PC.pd, E.ev, B.ev, SE.ev, LE.rows, lensEv, kSl_eq, kPt_eq, ov_prop, List.getElem?_cons_zero, List.getElem?_cons_succ, List.length_map, Nat.add_zero, Nat.zero_add, Option.bind_some, Option.map_some, if_true, Subtype.eta, mxi, mni, List.map_append, List.map_cons, List.map_nil, List.cons_append, List.nil_append, List.append_nil]) rfl fun b2 => ?_
  show Sy.den F K _ _ [.lst 4 (a0.map rw_iiii.en), .int a1, .bool b0, .bool b1, .int b2] = _
  refine den_ask (ps := [.int 1, .lst 4 (a0.map rw_iiii.en)]) (rr := gatherumlaw49_squares.rr) (G := gatherumlaw49_squares.f K 1 a0) (by rw [h36]; exact gatherumlaw49_squares.ap K 1 a0) (by simp only [pds, PC.pd, E.ev, B.ev, SE.ev, LE.rows, lensEv, kSl_eq, kPt_eq, ov_prop, List.getElem?_cons_zero, List.getElem?_cons_succ, List.length_map, Nat.add_zero, Nat.zero_add, Option.bind_some, Option.map_some, if_true, Subtype.eta, mxi, mni, List.map_append, List.map_cons, List.map_nil, List.cons_append, List.nil_append, List.append_nil]) rfl fun b3 => ?_
  show Sy.den F K _ _ [.lst 4 (a0.map rw_iiii.en), .int a1, .bool b0, .bool b1, .int b2, .int b3] = _
  refine den_ite (b := (b2 == b3)) rfl ?_ ?_
  refine den_ask (ps := [.int a1, .lst 4 (a0.map rw_iiii.en)]) (rr := cover_Often.rr) (G := cover_Often.f K a1 a0) (by rw [h37]; exact cover_Often.ap K a1 a0) (by simp only [pds, PC.pd, E.ev, B.ev, SE.ev, LE.rows, lensEv, kSl_eq, kPt_eq, ov_prop, List.getElem?_cons_zero, List.getElem?_cons_succ, List.length_map, Nat.add_zero, Nat.zero_add, Option.bind_some, Option.map_some, if_true, Subtype.eta, mxi, mni, List.map_append, List.map_cons, List.map_nil, List.cons_append, List.nil_append, List.append_nil]) rfl fun b4 => ?_
  show Sy.den F K _ _ [.lst 4 (a0.map rw_iiii.en), .int a1, .bool b0, .bool b1, .int b2, .int b3, .int b4] = _
  exact den_ret rfl
  exact den_ret rfl
  refine den_ask (ps := [.lst 4 (a0.map rw_iiii.en)]) (rr := cover_Area.rr) (G := cover_Area.f K a0) (by rw [h35]; exact cover_Area.ap K a0) (by simp only [pds, PC.pd, E.ev, B.ev, SE.ev, LE.rows, lensEv, kSl_eq, kPt_eq, ov_prop, List.getElem?_cons_zero, List.getElem?_cons_succ, List.length_map, Nat.add_zero, Nat.zero_add, Option.bind_some, Option.map_some, if_true, Subtype.eta, mxi, mni, List.map_append, List.map_cons, List.map_nil, List.cons_append, List.nil_append, List.append_nil]) rfl fun b2 => ?_
  show Sy.den F K _ _ [.lst 4 (a0.map rw_iiii.en), .int a1, .bool b0, .bool b1, .int b2] = _
  refine den_ask (ps := [.int 1, .lst 4 (a0.map rw_iiii.en)]) (rr := gatherumlaw49_squares.rr) (G := gatherumlaw49_squares.f K 1 a0) (by rw [h36]; exact gatherumlaw49_squares.ap K 1 a0) (by simp only [pds, PC.pd, E.ev, B.ev, SE.ev, LE.rows, lensEv, kSl_eq, kPt_eq, ov_prop, List.getElem?_cons_zero, List.getElem?_cons_succ, List.length_map, Nat.add_zero, Nat.zero_add, Option.bind_some, Option.map_some, if_true, Subtype.eta, mxi, mni, List.map_append, List.map_cons, List.map_nil, List.cons_append, List.nil_append, List.append_nil]) rfl fun b3 => ?_
  show Sy.den F K _ _ [.lst 4 (a0.map rw_iiii.en), .int a1, .bool b0, .bool b1, .int b2, .int b3] = _
  refine den_ite (b := (b2 == b3)) rfl ?_ ?_
  refine den_ask (ps := [.int a1, .lst 4 (a0.map rw_iiii.en)]) (rr := cover_Often.rr) (G := cover_Often.f K a1 a0) (by rw [h37]; exact cover_Often.ap K a1 a0) (by simp only [pds, PC.pd, E.ev, B.ev, SE.ev, LE.rows, lensEv, kSl_eq, kPt_eq, ov_prop, List.getElem?_cons_zero, List.getElem?_cons_succ, List.length_map, Nat.add_zero, Nat.zero_add, Option.bind_some, Option.map_some, if_true, Subtype.eta, mxi, mni, List.map_append, List.map_cons, List.map_nil, List.cons_append, List.nil_append, List.append_nil]) rfl fun b4 => ?_
  show Sy.den F K _ _ [.lst 4 (a0.map rw_iiii.en), .int a1, .bool b0, .bool b1, .int b2, .int b3, .int b4] = _
  refine den_ask (ps := [.int a1, .lst 4 (a0.map rw_iiii.en)]) (rr := gatherumlaw49_squares.rr) (G := gatherumlaw49_squares.f K a1 a0) (by rw [h36]; exact gatherumlaw49_squares.ap K a1 a0) (by simp only [pds, PC.pd, E.ev, B.ev, SE.ev, LE.rows, lensEv, kSl_eq, kPt_eq, ov_prop, List.getElem?_cons_zero, List.getElem?_cons_succ, List.length_map, Nat.add_zero, Nat.zero_add, Option.bind_some, Option.map_some, if_true, Subtype.eta, mxi, mni, List.map_append, List.map_cons, List.map_nil, List.cons_append, List.nil_append, List.append_nil]) rfl fun b5 => ?_
  show Sy.den F K _ _ [.lst 4 (a0.map rw_iiii.en), .int a1, .bool b0, .bool b1, .int b2, .int b3, .int b4, .int b5] = _
  exact den_ret rfl
  exact den_ret rfl
theorem gatherumlaw49_CoverCounts.ok (F : FnE) (K : Nat) (h33 : F 33 = gatherumlaw49_alive.app K) (h34 : F 34 = gatherumlaw49_small.app K) (h35 : F 35 = cover_Area.app K) (h36 : F 36 = gatherumlaw49_squares.app K) (h37 : F 37 = cover_Often.app K) (ps r : List PD) (h : gatherumlaw49_CoverCounts.app K ps = some r) : Sy.den F K gatherumlaw49_CoverCounts.t [] ps = some r := by
  obtain ⟨a, rfl, h2⟩ := app_ok (ra := gatherumlaw49_CoverCounts.ra) (rr := gatherumlaw49_CoverCounts.rr) (f := fun x => gatherumlaw49_CoverCounts.f K x.1 x.2) h
  rw [← h2]
  exact gatherumlaw49_CoverCounts.den F K h33 h34 h35 h36 h37 (a.1) (a.2)
theorem gatherumlaw49_CoverCounts.calls (K : Nat) (a0 : List (Int × Int × Int × Int)) (a1 : Int) (w : World) (S : Nat → Prop) (hS : ∀ b, S b → b < w.heap.size) (vals : List Value) (hv : RepArgs w S gatherumlaw49_CoverCounts.sg [.lst 4 (a0.map rw_iiii.en), .int a1] vals) (h : gatherumlaw49_CoverCounts.f K a0 a1 = some true) :
    Calls Try.prog 9 vals.toArray w fun e w' => e = .returned (.bool true) ∧ Below w.heap.size w w' := by
  refine (fn_callsD (r := [.bool true]) gatherumlaw49_CoverCounts.is rfl (by decide +kernel) envOk relOk relNp mix (exts_ok rfl rfl rfl rfl rfl rfl rfl rfl rfl) (gd36 K) (Den_of_den _ [] [] _ (fun d j hj => by simp at hj) (by rw [gatherumlaw49_CoverCounts.den _ K rfl rfl rfl rfl rfl, h]; rfl)) hS hv).mono fun e w' he => ?_
  cases e with
  | returned u => exact ⟨by rw [bool_ans he.1], he.2⟩
  | panicked c => exact he.elim
  | outgrown => exact he.elim
end Go.Proofs.Ytpicoedbkeljoaa.XCoverCounts
