/- What the functions of the law BoxCorners compute: written by sygen.py from the executor's answers. -/
import Derived.Test.YtnahjeeochfljaaHw
import Derived.Test.YtnahjeeochfljaaSyB
import Derived.Test.YtnahjeeochfljaaProg
import Derived.KernelRfl
set_option linter.unusedVariables false
set_option linter.unusedSimpArgs false
set_option maxRecDepth 100000
set_option maxHeartbeats 4000000
namespace Go.Proofs.Ytnahjeeochfljaa.XBoxCorners
open Go Go.RowKit Go.Proofs Go.Proofs.Ytnahjeeochfljaa.Sy
noncomputable def ty3 : TD := ⟨(TypeDesc.int IntKind.i64), (.int .i64 0), 1, 8⟩
noncomputable def ty4 : TD := ⟨TypeDesc.bool, (.bool false), 1, 1⟩
noncomputable def ty25 : TD := ⟨(TypeDesc.struct #[{ name := "X", type := 3, offset := 0, embedded := false, tag := "", pkgPath := "", byteOffset := 0 }, { name := "Y", type := 3, offset := 1, embedded := false, tag := "", pkgPath := "", byteOffset := 8 }]), (.agg #[.int .i64 0, .int .i64 0]), 2, 16⟩
noncomputable def ty27 : TD := ⟨(TypeDesc.struct #[{ name := "X0", type := 3, offset := 0, embedded := false, tag := "", pkgPath := "", byteOffset := 0 }, { name := "Y0", type := 3, offset := 1, embedded := false, tag := "", pkgPath := "", byteOffset := 8 }, { name := "X1", type := 3, offset := 2, embedded := false, tag := "", pkgPath := "", byteOffset := 16 }, { name := "Y1", type := 3, offset := 3, embedded := false, tag := "", pkgPath := "", byteOffset := 24 }]), (.agg #[.int .i64 0, .int .i64 0, .int .i64 0, .int .i64 0]), 4, 32⟩
noncomputable def ty34 : TD := ⟨(TypeDesc.slice 27), (.slice none 0 0), 1, 24⟩
noncomputable def ty64 : TD := ⟨(TypeDesc.slice 25), (.slice none 0 0), 1, 24⟩
noncomputable def tys : List (Nat × TD) := [(3, ty3), (4, ty4), (25, ty25), (27, ty27), (34, ty34), (64, ty64)]
noncomputable def flats : List Nat := [25, 27]
noncomputable def kds : List (Nat × List K4) := [(3, [.i]), (4, [.b]), (25, [.i, .i]), (27, [.i, .i, .i, .i]), (34, [(.l 27 4)]), (64, [(.l 25 2)])]
noncomputable def fns : List (Nat × List S1 × Sh) := [(31, [(.agg [.i, .i, .i, .i])], (.one (.one .b))), (23, [(.agg [.i, .i, .i, .i]), (.one .b), (.one .i)], (.one (.one (.l 27 4)))), (28, [(.agg [.i, .i, .i, .i]), (.agg [.i, .i, .i, .i])], (.one (.agg [.i, .i, .i, .i]))), (22, [], (.one (.one .b))), (47, [(.agg [.i, .i, .i, .i]), (.one .i)], (.one (.one (.l 25 2)))), (10, [(.agg [.i, .i, .i, .i]), (.one .i)], (.one (.one .b)))]
noncomputable def env : Env := ⟨tys, eqsOf tys flats flats, kds, fns⟩
noncomputable def frz : List (Nat × Nat) := [(64, 5)]
noncomputable def tab : List (Nat × OwE) := []
noncomputable def stab : List (Nat × Nat) := []
noncomputable def exts (n : Nat) : Ext := orExt (frzExt n frz) <| orExt noExt (orExt (subExt env n) (orExt (owExt n tab) (orExt noExt (setExt env n stab))))
noncomputable def rel : List (Nat × RelE) := []
theorem tysOk : TysOk Try.prog tys := (tys_cons (tys_cons (tys_cons (tys_cons (tys_cons (tys_cons tys_nil (t := 64) (td := ty64) Try.underlying64 (by kernel_rfl)) (t := 34) (td := ty34) Try.underlying34 (by kernel_rfl)) (t := 27) (td := ty27) Try.underlying27 (by kernel_rfl)) (t := 25) (td := ty25) Try.underlying25 (by kernel_rfl)) (t := 4) (td := ty4) Try.underlying4 (by kernel_rfl)) (t := 3) (td := ty3) Try.underlying3 (by kernel_rfl))
theorem flatOk : FlatOk Try.prog flats := (flat_cons (flat_cons flat_nil (t := 27) (by kernel_rfl) (by kernel_rfl)) (t := 25) (by kernel_rfl) (by kernel_rfl))
theorem envOk : EnvOk Try.prog env := env_ok tysOk flatOk kds fns
theorem mix : Try.prog.follows .mixedOrders = true := by kernel_rfl
theorem relOk : GoodR Try.prog rel := goodR_nil
theorem relNp : RelNoPt rel := relNoPt_nil
noncomputable def l0 (K : Nat) : List (Nat × App) := [(1000001, subApp), (1000002, cliApp), (1000003, stiApp), (1000004, getApp)]
theorem gd0 (K : Nat) : Sy.Good Try.prog fns (mkF (l0 K)) := (good_ps (by kernel_rfl) (good_ps (by kernel_rfl) (good_ps (by kernel_rfl) (good_ps (by kernel_rfl) good_nil getApp) stiApp) cliApp) subApp)
theorem exts_ok {F : FnE} {n : Nat} (h1000001 : F 1000001 = subApp) (h1000002 : F 1000002 = cliApp) (h1000003 : F 1000003 = stiApp) (h1000004 : F 1000004 = getApp) : ExtOk Try.prog F n (exts n) := orExt_ok frzExt_ok <| orExt_ok noExt_ok (orExt_ok (subExt_ok envOk h1000001) (orExt_ok (owExt_ok owOk_nil) (orExt_ok noExt_ok (setExt_ok envOk mem_zero))))
noncomputable def kSl : Ov := ⟨.slice none 0 0, rfl⟩
theorem kSl_eq : Value.slice none 0 0 = kSl.1 := rfl
noncomputable def kPt : Ov := ⟨.pointer none, rfl⟩
theorem kPt_eq : Value.pointer none = kPt.1 := rfl
noncomputable def rw_iiii : Rw (Int × Int × Int × Int) := (rwP rwI (rwP rwI (rwP rwI rwI)))
theorem rw_iiii_en (r : Int × Int × Int × Int) : rw_iiii.en r = [.int r.1, .int r.2.1, .int r.2.2.1, .int r.2.2.2] := rfl
theorem rw_iiii_one (r0 : Int) (r1 : Int) (r2 : Int) (r3 : Int) : ([[.int r0, .int r1, .int r2, .int r3]] : List (List PD)) = [(r0, r1, r2, r3)].map rw_iiii.en := rfl
theorem rw_iiii_cons (r0 : Int) (r1 : Int) (r2 : Int) (r3 : Int) (l : List (Int × Int × Int × Int)) : ([.int r0, .int r1, .int r2, .int r3] :: l.map rw_iiii.en : List (List PD)) = ((r0, r1, r2, r3) :: l).map rw_iiii.en := rfl
theorem rw_iiii_nil : (PD.lst 4 [] : PD) = PD.lst 4 (([] : List (Int × Int × Int × Int)).map rw_iiii.en) := rfl
noncomputable def rw_ii : Rw (Int × Int) := (rwP rwI rwI)
theorem rw_ii_en (r : Int × Int) : rw_ii.en r = [.int r.1, .int r.2] := rfl
theorem rw_ii_one (r0 : Int) (r1 : Int) : ([[.int r0, .int r1]] : List (List PD)) = [(r0, r1)].map rw_ii.en := rfl
theorem rw_ii_cons (r0 : Int) (r1 : Int) (l : List (Int × Int)) : ([.int r0, .int r1] :: l.map rw_ii.en : List (List PD)) = ((r0, r1) :: l).map rw_ii.en := rfl
theorem rw_ii_nil : (PD.lst 2 [] : PD) = PD.lst 2 (([] : List (Int × Int)).map rw_ii.en) := rfl
theorem den_ite {F : FnE} {K : Nat} {c : B} {x y : Tree} {Js : List (List PD → Option (List PD))} {ρ : List PD} {b : Bool} {α : Type} {X Y : Option α} {g : α → List PD} (hc : c.ev ρ = some b) (hx : Sy.den F K x Js ρ = X.map g) (hy : Sy.den F K y Js ρ = Y.map g) : Sy.den F K (.ite c x y) Js ρ = (if b = true then X else Y).map g := by
  rw [Sy.den, hc, Option.bind_some]; cases b
  · exact hy
  · exact hx
theorem den_ask {F : FnE} {K f : Nat} {args : List PC} {ks : List K4} {k : Tree} {Js : List (List PD → Option (List PD))} {ρ ps : List PD} {α β : Type} {G : Option β} {X : β → Option α} {g : α → List PD} {rr : Rw β} (ha : F f ps = G.map rr.en) (hp : pds ρ args = some ps) (hk : rr.ks = ks) (h : ∀ b, Sy.den F K k Js (ρ ++ rr.en b) = (X b).map g) : Sy.den F K (.ask f args ks k) Js ρ = (G.bind X).map g := by
  rw [Sy.den, hp, Option.bind_some, ha]
  cases G with
  | none => rfl
  | some b => subst hk; simp only [Option.map_some, Option.bind_some, rr.hok, if_true]; exact h b
theorem den_get {F : FnE} {K l sz : Nat} {i : E} {ks : List K4} {k : Tree} {Js : List (List PD → Option (List PD))} {ρ : List PD} {α β : Type} {L : List β} {X : β → Option α} {g : α → List PD} {rw : Rw β} {iv : Int} (hl : ρ[l]? = some (.lst sz (L.map rw.en))) (hi : i.ev ρ = some iv) (hk : rw.ks = ks) (h : ∀ b, Sy.den F K k Js (ρ ++ rw.en b) = (X b).map g) : Sy.den F K (.get l i ks k) Js ρ = ((L[iv.toNat]?).bind X).map g := by
  rw [Sy.den, hl]
  simp only [hi, Option.bind_some, List.getElem?_map]
  cases L[iv.toNat]? with
  | none => rfl
  | some b => subst hk; simp only [Option.map_some, Option.bind_some, rw.hok, if_true]; exact h b
theorem den_fix {F : FnE} {K sz : Nat} {L : LE} {k : Tree} {Js : List (List PD → Option (List PD))} {ρ : List PD} {α : Type} {rows : List (List PD)} {X : Option α} {g : α → List PD} (hL : LE.rows ρ L = some rows) (h : Sy.den F K k Js (ρ ++ [.lst sz rows]) = X.map g) : Sy.den F K (.fix L sz k) Js ρ = X.map g := by
  rw [Sy.den, hL]; exact h
theorem den_loop {F : FnE} {K : Nat} {args : List PC} {ks : List K4} {body : Tree} {Js : List (List PD → Option (List PD))} {ρ vs : List PD} {α : Type} {X : Option α} {g : α → List PD} (hp : pds ρ args = some vs) (h : iterF (fun J ρ' => Sy.den F K body (J :: Js) ρ') K (ρ ++ vs) = X.map g) : Sy.den F K (.loop args ks body) Js ρ = X.map g := by
  rw [Sy.den, hp]; exact h
theorem den_back {F : FnE} {K d p0 : Nat} {args : List PC} {Js : List (List PD → Option (List PD))} {ρ vs : List PD} {α : Type} {X : Option α} {g : α → List PD} {J : List PD → Option (List PD)} (hp : pds ρ args = some vs) (hJ : Js[d]? = some J) (h : J (ρ.take p0 ++ vs) = X.map g) : Sy.den F K (.back d p0 args) Js ρ = X.map g := by
  rw [Sy.den, hp, Option.bind_some, hJ]; exact h
theorem dens_ite {F : FnE} {c : B} {x y : Tree} {sup : List Ov} {ρ : List PD} {b : Bool} {α : Type} {X Y : Option α} {g : α → List PD} (hc : c.ev ρ = some b) (hx : Sy.denS F x ρ sup = X.map g) (hy : Sy.denS F y ρ sup = Y.map g) : Sy.denS F (.ite c x y) ρ sup = (if b = true then X else Y).map g := by
  rw [Sy.denS, hc, Option.bind_some]; cases b
  · exact hy
  · exact hx
theorem dens_ask {F : FnE} {f : Nat} {args : List PC} {ks : List K4} {k : Tree} {sup : List Ov} {ρ ps : List PD} {α β : Type} {G : Option β} {X : β → Option α} {g : α → List PD} {rr : Rw β} (ha : F f ps = G.map rr.en) (hp : pds ρ args = some ps) (hk : rr.ks = ks) (h : ∀ b, Sy.denS F k (ρ ++ rr.en b) sup = (X b).map g) : Sy.denS F (.ask f args ks k) ρ sup = (G.bind X).map g := by
  rw [Sy.denS, hp, Option.bind_some, ha]
  cases G with
  | none => rfl
  | some b => subst hk; simp only [Option.map_some, Option.bind_some, rr.hok, if_true]; exact h b
theorem dens_get {F : FnE} {l sz : Nat} {i : E} {ks : List K4} {k : Tree} {sup : List Ov} {ρ : List PD} {α β : Type} {L : List β} {X : β → Option α} {g : α → List PD} {rw : Rw β} {iv : Int} (hl : ρ[l]? = some (.lst sz (L.map rw.en))) (hi : i.ev ρ = some iv) (hk : rw.ks = ks) (h : ∀ b, Sy.denS F k (ρ ++ rw.en b) sup = (X b).map g) : Sy.denS F (.get l i ks k) ρ sup = ((L[iv.toNat]?).bind X).map g := by
  rw [Sy.denS, hl]
  simp only [hi, Option.bind_some, List.getElem?_map]
  cases L[iv.toNat]? with
  | none => rfl
  | some b => subst hk; simp only [Option.map_some, Option.bind_some, rw.hok, if_true]; exact h b
theorem dens_fix {F : FnE} {sz : Nat} {L : LE} {k : Tree} {sup : List Ov} {ρ : List PD} {α : Type} {rows : List (List PD)} {X : Option α} {g : α → List PD} (hL : LE.rows ρ L = some rows) (h : Sy.denS F k (ρ ++ [.lst sz rows]) sup = X.map g) : Sy.denS F (.fix L sz k) ρ sup = X.map g := by
  rw [Sy.denS, hL]; exact h
theorem dens_cst {F : FnE} {n : Nat} {k : Tree} {sup l rest : List Ov} {ρ : List PD} {α : Type} {X : Option α} {g : α → List PD} (hs : sup = l ++ rest) (hl : l.length = n) (h : Sy.denS F k (ρ ++ ovs l) rest = X.map g) : Sy.denS F (.cst n k) ρ sup = X.map g := by
  subst hs hl
  rw [Sy.denS, if_pos (by rw [List.length_append]; omega), List.take_left, List.drop_left]; exact h
theorem dens_ret {F : FnE} {l : List PC} {sup : List Ov} {ρ : List PD} {α : Type} {X : Option α} {g : α → List PD} (hp : pds ρ l = X.map g) : Sy.denS F (.ret l) ρ sup = X.map g := hp
theorem dens_bad (F : FnE) (ρ : List PD) (sup : List Ov) {α : Type} (g : α → List PD) : Sy.denS F .bad ρ sup = (none : Option α).map g := rfl
theorem den_ret {F : FnE} {K : Nat} {l : List PC} {Js : List (List PD → Option (List PD))} {ρ : List PD} {α : Type} {X : Option α} {g : α → List PD} (hp : pds ρ l = X.map g) : Sy.den F K (.ret l) Js ρ = X.map g := hp
theorem den_bad (F : FnE) (K : Nat) (Js : List (List PD → Option (List PD))) (ρ : List PD) {α : Type} (g : α → List PD) : Sy.den F K .bad Js ρ = (none : Option α).map g := rfl
/-! ### box_Empty: function 31 -/
noncomputable def box_Empty.body : Code := Try.f31.body.getD .skip
noncomputable def box_Empty.sg : List S1 := [(.agg [.i, .i, .i, .i])]
noncomputable def box_Empty.sh : Sh := (.one (.one .b))
noncomputable def box_Empty.cf : Cfg := ⟨env, Try.f31.ntmps, Try.f31.results.toList, some box_Empty.sh, rel, [], [], (exts Try.f31.ntmps)⟩
noncomputable def box_Empty.t : Tree := (.ite (.le (.va 2) (.va 0)) (.ret [(.bo (.co true))]) (.ret [(.bo (.le (.va 3) (.va 1)))]))
noncomputable def box_Empty.ra : Rw (Int × Int × Int × Int) := (rwP rwI (rwP rwI (rwP rwI rwI)))
noncomputable def box_Empty.rr : Rw (Bool) := rwB
theorem box_Empty.rr_en (r : Bool) : box_Empty.rr.en r = [.bool r] := rfl
noncomputable def box_Empty.f (a0_0 : Int) (a0_1 : Int) (a0_2 : Int) (a0_3 : Int) : Option (Bool) := (if (decide (a0_2 ≤ a0_0)) = true then some true else some (decide (a0_3 ≤ a0_1)))
noncomputable def box_Empty.app : App := fun ps => (box_Empty.ra.de ps).bind fun x => (box_Empty.f x.1 x.2.1 x.2.2.1 x.2.2.2).map box_Empty.rr.en
theorem box_Empty.ap (a0_0 : Int) (a0_1 : Int) (a0_2 : Int) (a0_3 : Int) : box_Empty.app [.int a0_0, .int a0_1, .int a0_2, .int a0_3] = (box_Empty.f a0_0 a0_1 a0_2 a0_3).map box_Empty.rr.en := app_ap box_Empty.ra box_Empty.rr (fun x => box_Empty.f x.1 x.2.1 x.2.2.1 x.2.2.2) (a0_0, a0_1, a0_2, a0_3)
theorem box_Empty.is : FnIs Try.prog 31 (.init box_Empty.sg) box_Empty.t box_Empty.cf := ⟨Try.f31, box_Empty.body, 6000, Try.func31, by kernel_rfl, rfl, rfl, by decide +kernel, by kernel_rfl⟩
theorem box_Empty.den (F : FnE) (K : Nat) (a0_0 : Int) (a0_1 : Int) (a0_2 : Int) (a0_3 : Int) : Sy.den F K box_Empty.t [] [.int a0_0, .int a0_1, .int a0_2, .int a0_3] = (box_Empty.f a0_0 a0_1 a0_2 a0_3).map box_Empty.rr.en := by
  unfold box_Empty.t box_Empty.f
  refine den_ite (b := (decide (a0_2 ≤ a0_0))) rfl ?_ ?_
  exact den_ret rfl
  exact den_ret rfl
theorem box_Empty.ok (F : FnE) (K : Nat) (ps r : List PD) (h : box_Empty.app ps = some r) : Sy.den F K box_Empty.t [] ps = some r := by
  obtain ⟨a, rfl, h2⟩ := app_ok (ra := box_Empty.ra) (rr := box_Empty.rr) (f := fun x => box_Empty.f x.1 x.2.1 x.2.2.1 x.2.2.2) h
  rw [← h2]
  exact box_Empty.den F K (a.1) (a.2.1) (a.2.2.1) (a.2.2.2)
noncomputable def l31 (K : Nat) : List (Nat × App) := (31, box_Empty.app) :: l0 K
theorem gd31 (K : Nat) : Sy.Good Try.prog fns (mkF (l31 K)) := good_cons (K := K) box_Empty.is rfl (by kernel_rfl) (by decide +kernel) envOk relOk relNp mix (gd0 K) (exts_ok rfl rfl rfl rfl) (box_Empty.ok _ K)
/-! ### box_Split: function 23 -/
noncomputable def box_Split.body : Code := Try.f23.body.getD .skip
noncomputable def box_Split.sg : List S1 := [(.agg [.i, .i, .i, .i]), (.one .b), (.one .i)]
noncomputable def box_Split.sh : Sh := (.one (.one (.l 27 4)))
noncomputable def box_Split.cf : Cfg := ⟨env, Try.f23.ntmps, Try.f23.results.toList, some box_Split.sh, rel, [], [], (exts Try.f23.ntmps)⟩
noncomputable def box_Split.t : Tree := (.ask 31 [(.ex (.va 0)), (.ex (.va 1)), (.ex (.va 2)), (.ex (.va 3))] [.b] (.ite (.va 6) (.ret [(.nl 4)]) (.ite (.va 4) (.ite (.lt (.va 0) (.va 5)) (.ite (.lt (.va 5) (.va 2)) (.fix [(.row [(.ex (.va 0)), (.ex (.va 1)), (.ex (.va 5)), (.ex (.va 3))]), (.row [(.ex (.va 5)), (.ex (.va 1)), (.ex (.va 2)), (.ex (.va 3))])] 4 (.ret [(.li 7)])) (.fix [(.row [(.ex (.va 0)), (.ex (.va 1)), (.ex (.va 2)), (.ex (.va 3))])] 4 (.ret [(.li 7)]))) (.fix [(.row [(.ex (.va 0)), (.ex (.va 1)), (.ex (.va 2)), (.ex (.va 3))])] 4 (.ret [(.li 7)]))) (.ite (.lt (.va 1) (.va 5)) (.ite (.lt (.va 5) (.va 3)) (.fix [(.row [(.ex (.va 0)), (.ex (.va 1)), (.ex (.va 2)), (.ex (.va 5))]), (.row [(.ex (.va 0)), (.ex (.va 5)), (.ex (.va 2)), (.ex (.va 3))])] 4 (.ret [(.li 7)])) (.fix [(.row [(.ex (.va 0)), (.ex (.va 1)), (.ex (.va 2)), (.ex (.va 3))])] 4 (.ret [(.li 7)]))) (.fix [(.row [(.ex (.va 0)), (.ex (.va 1)), (.ex (.va 2)), (.ex (.va 3))])] 4 (.ret [(.li 7)]))))))
noncomputable def box_Split.ra : Rw (Int × Int × Int × Int × Bool × Int) := (rwP rwI (rwP rwI (rwP rwI (rwP rwI (rwP rwB rwI)))))
noncomputable def box_Split.rr : Rw (List (Int × Int × Int × Int)) := (rwL 27 4 rw_iiii rfl)
theorem box_Split.rr_en (r : List (Int × Int × Int × Int)) : box_Split.rr.en r = [.lst 4 (r.map rw_iiii.en)] := rfl
noncomputable def box_Split.f (a0_0 : Int) (a0_1 : Int) (a0_2 : Int) (a0_3 : Int) (a1 : Bool) (a2 : Int) : Option (List (Int × Int × Int × Int)) := ((box_Empty.f a0_0 a0_1 a0_2 a0_3).bind fun b0 => (if b0 = true then some [] else (if a1 = true then (if (decide (a0_0 < a2)) = true then (if (decide (a2 < a0_2)) = true then some ((a0_0, a0_1, a2, a0_3) :: [(a2, a0_1, a0_2, a0_3)]) else some [(a0_0, a0_1, a0_2, a0_3)]) else some [(a0_0, a0_1, a0_2, a0_3)]) else (if (decide (a0_1 < a2)) = true then (if (decide (a2 < a0_3)) = true then some ((a0_0, a0_1, a0_2, a2) :: [(a0_0, a2, a0_2, a0_3)]) else some [(a0_0, a0_1, a0_2, a0_3)]) else some [(a0_0, a0_1, a0_2, a0_3)]))))
noncomputable def box_Split.app : App := fun ps => (box_Split.ra.de ps).bind fun x => (box_Split.f x.1 x.2.1 x.2.2.1 x.2.2.2.1 x.2.2.2.2.1 x.2.2.2.2.2).map box_Split.rr.en
theorem box_Split.ap (a0_0 : Int) (a0_1 : Int) (a0_2 : Int) (a0_3 : Int) (a1 : Bool) (a2 : Int) : box_Split.app [.int a0_0, .int a0_1, .int a0_2, .int a0_3, .bool a1, .int a2] = (box_Split.f a0_0 a0_1 a0_2 a0_3 a1 a2).map box_Split.rr.en := app_ap box_Split.ra box_Split.rr (fun x => box_Split.f x.1 x.2.1 x.2.2.1 x.2.2.2.1 x.2.2.2.2.1 x.2.2.2.2.2) (a0_0, a0_1, a0_2, a0_3, a1, a2)
theorem box_Split.is : FnIs Try.prog 23 (.init box_Split.sg) box_Split.t box_Split.cf := ⟨Try.f23, box_Split.body, 6000, Try.func23, by kernel_rfl, rfl, rfl, by decide +kernel, by kernel_rfl⟩
theorem box_Split.den (F : FnE) (K : Nat) (h31 : F 31 = box_Empty.app) (a0_0 : Int) (a0_1 : Int) (a0_2 : Int) (a0_3 : Int) (a1 : Bool) (a2 : Int) : Sy.den F K box_Split.t [] [.int a0_0, .int a0_1, .int a0_2, .int a0_3, .bool a1, .int a2] = (box_Split.f a0_0 a0_1 a0_2 a0_3 a1 a2).map box_Split.rr.en := by
  unfold box_Split.t box_Split.f
  refine den_ask (ps := [.int a0_0, .int a0_1, .int a0_2, .int a0_3]) (rr := box_Empty.rr) (G := box_Empty.f a0_0 a0_1 a0_2 a0_3) (by rw [h31]; exact box_Empty.ap a0_0 a0_1 a0_2 a0_3) rfl rfl fun b0 => ?_
  show Sy.den F K _ _ [.int a0_0, .int a0_1, .int a0_2, .int a0_3, .bool a1, .int a2, .bool b0] = _
  refine den_ite (b := b0) rfl ?_ ?_
  exact den_ret (by simp only [pds, PC.pd, E.ev, B.ev, SE.ev, LE.rows, lensEv, kSl_eq, kPt_eq, ov_prop, List.getElem?_cons_zero, List.getElem?_cons_succ, List.length_map, Nat.add_zero, Nat.zero_add, Option.bind_some, Option.map_some, if_true, Subtype.eta, mxi, mni, List.map_append, List.map_cons, List.map_nil, List.cons_append, List.nil_append, List.append_nil, box_Split.rr_en])
  refine den_ite (b := a1) rfl ?_ ?_
  refine den_ite (b := (decide (a0_0 < a2))) rfl ?_ ?_
  refine den_ite (b := (decide (a2 < a0_2))) rfl ?_ ?_
  refine den_fix (rows := List.map rw_iiii.en ((a0_0, a0_1, a2, a0_3) :: [(a2, a0_1, a0_2, a0_3)])) (by simp only [pds, PC.pd, E.ev, B.ev, SE.ev, LE.rows, lensEv, kSl_eq, kPt_eq, ov_prop, List.getElem?_cons_zero, List.getElem?_cons_succ, List.length_map, Nat.add_zero, Nat.zero_add, Option.bind_some, Option.map_some, if_true, Subtype.eta, mxi, mni, List.map_append, List.map_cons, List.map_nil, List.cons_append, List.nil_append, List.append_nil, rw_iiii_en]) ?_
  show Sy.den F K _ _ [.int a0_0, .int a0_1, .int a0_2, .int a0_3, .bool a1, .int a2, .bool b0, .lst 4 (((a0_0, a0_1, a2, a0_3) :: [(a2, a0_1, a0_2, a0_3)]).map rw_iiii.en)] = _
  exact den_ret (by simp only [pds, PC.pd, E.ev, B.ev, SE.ev, LE.rows, lensEv, kSl_eq, kPt_eq, ov_prop, List.getElem?_cons_zero, List.getElem?_cons_succ, List.length_map, Nat.add_zero, Nat.zero_add, Option.bind_some, Option.map_some, if_true, Subtype.eta, mxi, mni, List.map_append, List.map_cons, List.map_nil, List.cons_append, List.nil_append, List.append_nil, box_Split.rr_en])
  refine den_fix (rows := List.map rw_iiii.en [(a0_0, a0_1, a0_2, a0_3)]) (by simp only [pds, PC.pd, E.ev, B.ev, SE.ev, LE.rows, lensEv, kSl_eq, kPt_eq, ov_prop, List.getElem?_cons_zero, List.getElem?_cons_succ, List.length_map, Nat.add_zero, Nat.zero_add, Option.bind_some, Option.map_some, if_true, Subtype.eta, mxi, mni, List.map_append, List.map_cons, List.map_nil, List.cons_append, List.nil_append, List.append_nil, rw_iiii_en]) ?_
  show Sy.den F K _ _ [.int a0_0, .int a0_1, .int a0_2, .int a0_3, .bool a1, .int a2, .bool b0, .lst 4 ([(a0_0, a0_1, a0_2, a0_3)].map rw_iiii.en)] = _
  exact den_ret (by simp only [pds, PC.pd, E.ev, B.ev, SE.ev, LE.rows, lensEv, kSl_eq, kPt_eq, ov_prop, List.getElem?_cons_zero, List.getElem?_cons_succ, List.length_map, Nat.add_zero, Nat.zero_add, Option.bind_some, Option.map_some, if_true, Subtype.eta, mxi, mni, List.map_append, List.map_cons, List.map_nil, List.cons_append, List.nil_append, List.append_nil, box_Split.rr_en])
  refine den_fix (rows := List.map rw_iiii.en [(a0_0, a0_1, a0_2, a0_3)]) (by simp only [pds, PC.pd, E.ev, B.ev, SE.ev, LE.rows, lensEv, kSl_eq, kPt_eq, ov_prop, List.getElem?_cons_zero, List.getElem?_cons_succ, List.length_map, Nat.add_zero, Nat.zero_add, Option.bind_some, Option.map_some, if_true, Subtype.eta, mxi, mni, List.map_append, List.map_cons, List.map_nil, List.cons_append, List.nil_append, List.append_nil, rw_iiii_en]) ?_
  show Sy.den F K _ _ [.int a0_0, .int a0_1, .int a0_2, .int a0_3, .bool a1, .int a2, .bool b0, .lst 4 ([(a0_0, a0_1, a0_2, a0_3)].map rw_iiii.en)] = _
  exact den_ret (by simp only [pds, PC.pd, E.ev, B.ev, SE.ev, LE.rows, lensEv, kSl_eq, kPt_eq, ov_prop, List.getElem?_cons_zero, List.getElem?_cons_succ, List.length_map, Nat.add_zero, Nat.zero_add, Option.bind_some, Option.map_some, if_true, Subtype.eta, mxi, mni, List.map_append, List.map_cons, List.map_nil, List.cons_append, List.nil_append, List.append_nil, box_Split.rr_en])
  refine den_ite (b := (decide (a0_1 < a2))) rfl ?_ ?_
  refine den_ite (b := (decide (a2 < a0_3))) rfl ?_ ?_
  refine den_fix (rows := List.map rw_iiii.en ((a0_0, a0_1, a0_2, a2) :: [(a0_0, a2, a0_2, a0_3)])) (by simp only [pds, PC.pd, E.ev, B.ev, SE.ev, LE.rows, lensEv, kSl_eq, kPt_eq, ov_prop, List.getElem?_cons_zero, List.getElem?_cons_succ, List.length_map, Nat.add_zero, Nat.zero_add, Option.bind_some, Option.map_some, if_true, Subtype.eta, mxi, mni, List.map_append, List.map_cons, List.map_nil, List.cons_append, List.nil_append, List.append_nil, rw_iiii_en]) ?_
  show Sy.den F K _ _ [.int a0_0, .int a0_1, .int a0_2, .int a0_3, .bool a1, .int a2, .bool b0, .lst 4 (((a0_0, a0_1, a0_2, a2) :: [(a0_0, a2, a0_2, a0_3)]).map rw_iiii.en)] = _
  exact den_ret (by simp only [pds, PC.pd, E.ev, B.ev, SE.ev, LE.rows, lensEv, kSl_eq, kPt_eq, ov_prop, List.getElem?_cons_zero, List.getElem?_cons_succ, List.length_map, Nat.add_zero, Nat.zero_add, Option.bind_some, Option.map_some, if_true, Subtype.eta, mxi, mni, List.map_append, List.map_cons, List.map_nil, List.cons_append, List.nil_append, List.append_nil, box_Split.rr_en])
  refine den_fix (rows := List.map rw_iiii.en [(a0_0, a0_1, a0_2, a0_3)]) (by simp only [pds, PC.pd, E.ev, B.ev, SE.ev, LE.rows, lensEv, kSl_eq, kPt_eq, ov_prop, List.getElem?_cons_zero, List.getElem?_cons_succ, List.length_map, Nat.add_zero, Nat.zero_add, Option.bind_some, Option.map_some, if_true, Subtype.eta, mxi, mni, List.map_append, List.map_cons, List.map_nil, List.cons_append, List.nil_append, List.append_nil, rw_iiii_en]) ?_
  show Sy.den F K _ _ [.int a0_0, .int a0_1, .int a0_2, .int a0_3, .bool a1, .int a2, .bool b0, .lst 4 ([(a0_0, a0_1, a0_2, a0_3)].map rw_iiii.en)] = _
  exact den_ret (by simp only [pds, PC.pd, E.ev, B.ev, SE.ev, LE.rows, lensEv, kSl_eq, kPt_eq, ov_prop, List.getElem?_cons_zero, List.getElem?_cons_succ, List.length_map, Nat.add_zero, Nat.zero_add, Option.bind_some, Option.map_some, if_true, Subtype.eta, mxi, mni, List.map_append, List.map_cons, List.map_nil, List.cons_append, List.nil_append, List.append_nil, box_Split.rr_en])
  refine den_fix (rows := List.map rw_iiii.en [(a0_0, a0_1, a0_2, a0_3)]) (by simp only [pds, PC.pd, E.ev, B.ev, SE.ev, LE.rows, lensEv, kSl_eq, kPt_eq, ov_prop, List.getElem?_cons_zero, List.getElem?_cons_succ, List.length_map, Nat.add_zero, Nat.zero_add, Option.bind_some, Option.map_some, if_true, Subtype.eta, mxi, mni, List.map_append, List.map_cons, List.map_nil, List.cons_append, List.nil_append, List.append_nil, rw_iiii_en]) ?_
  show Sy.den F K _ _ [.int a0_0, .int a0_1, .int a0_2, .int a0_3, .bool a1, .int a2, .bool b0, .lst 4 ([(a0_0, a0_1, a0_2, a0_3)].map rw_iiii.en)] = _
  exact den_ret (by simp only [pds, PC.pd, E.ev, B.ev, SE.ev, LE.rows, lensEv, kSl_eq, kPt_eq, ov_prop, List.getElem?_cons_zero, List.getElem?_cons_succ, List.length_map, Nat.add_zero, Nat.zero_add, Option.bind_some, Option.map_some, if_true, Subtype.eta, mxi, mni, List.map_append, List.map_cons, List.map_nil, List.cons_append, List.nil_append, List.append_nil, box_Split.rr_en])
theorem box_Split.ok (F : FnE) (K : Nat) (h31 : F 31 = box_Empty.app) (ps r : List PD) (h : box_Split.app ps = some r) : Sy.den F K box_Split.t [] ps = some r := by
  obtain ⟨a, rfl, h2⟩ := app_ok (ra := box_Split.ra) (rr := box_Split.rr) (f := fun x => box_Split.f x.1 x.2.1 x.2.2.1 x.2.2.2.1 x.2.2.2.2.1 x.2.2.2.2.2) h
  rw [← h2]
  exact box_Split.den F K h31 (a.1) (a.2.1) (a.2.2.1) (a.2.2.2.1) (a.2.2.2.2.1) (a.2.2.2.2.2)
noncomputable def l23 (K : Nat) : List (Nat × App) := (23, box_Split.app) :: l31 K
theorem gd23 (K : Nat) : Sy.Good Try.prog fns (mkF (l23 K)) := good_cons (K := K) box_Split.is rfl (by kernel_rfl) (by decide +kernel) envOk relOk relNp mix (gd31 K) (exts_ok rfl rfl rfl rfl) (box_Split.ok _ K rfl)
/-! ### box_Meet: function 28 -/
noncomputable def box_Meet.body : Code := Try.f28.body.getD .skip
noncomputable def box_Meet.sg : List S1 := [(.agg [.i, .i, .i, .i]), (.agg [.i, .i, .i, .i])]
noncomputable def box_Meet.sh : Sh := (.one (.agg [.i, .i, .i, .i]))
noncomputable def box_Meet.cf : Cfg := ⟨env, Try.f28.ntmps, Try.f28.results.toList, some box_Meet.sh, rel, [], [], (exts Try.f28.ntmps)⟩
noncomputable def box_Meet.t : Tree := (.ask 31 [(.ex (.mx (.va 0) (.va 4))), (.ex (.mx (.va 1) (.va 5))), (.ex (.mn (.va 2) (.va 6))), (.ex (.mn (.va 3) (.va 7)))] [.b] (.ite (.va 8) (.ret [(.ex (.nu 0)), (.ex (.nu 0)), (.ex (.nu 0)), (.ex (.nu 0))]) (.ret [(.ex (.mx (.va 0) (.va 4))), (.ex (.mx (.va 1) (.va 5))), (.ex (.mn (.va 2) (.va 6))), (.ex (.mn (.va 3) (.va 7)))])))
noncomputable def box_Meet.ra : Rw (Int × Int × Int × Int × Int × Int × Int × Int) := (rwP rwI (rwP rwI (rwP rwI (rwP rwI (rwP rwI (rwP rwI (rwP rwI rwI)))))))
noncomputable def box_Meet.rr : Rw (Int × Int × Int × Int) := (rwP rwI (rwP rwI (rwP rwI rwI)))
theorem box_Meet.rr_en (r : Int × Int × Int × Int) : box_Meet.rr.en r = [.int r.1, .int r.2.1, .int r.2.2.1, .int r.2.2.2] := rfl
noncomputable def box_Meet.f (a0_0 : Int) (a0_1 : Int) (a0_2 : Int) (a0_3 : Int) (a1_0 : Int) (a1_1 : Int) (a1_2 : Int) (a1_3 : Int) : Option (Int × Int × Int × Int) := ((box_Empty.f (mxi a0_0 a1_0) (mxi a0_1 a1_1) (mni a0_2 a1_2) (mni a0_3 a1_3)).bind fun b0 => (if b0 = true then some (0, 0, 0, 0) else some ((mxi a0_0 a1_0), (mxi a0_1 a1_1), (mni a0_2 a1_2), (mni a0_3 a1_3))))
noncomputable def box_Meet.app : App := fun ps => (box_Meet.ra.de ps).bind fun x => (box_Meet.f x.1 x.2.1 x.2.2.1 x.2.2.2.1 x.2.2.2.2.1 x.2.2.2.2.2.1 x.2.2.2.2.2.2.1 x.2.2.2.2.2.2.2).map box_Meet.rr.en
theorem box_Meet.ap (a0_0 : Int) (a0_1 : Int) (a0_2 : Int) (a0_3 : Int) (a1_0 : Int) (a1_1 : Int) (a1_2 : Int) (a1_3 : Int) : box_Meet.app [.int a0_0, .int a0_1, .int a0_2, .int a0_3, .int a1_0, .int a1_1, .int a1_2, .int a1_3] = (box_Meet.f a0_0 a0_1 a0_2 a0_3 a1_0 a1_1 a1_2 a1_3).map box_Meet.rr.en := app_ap box_Meet.ra box_Meet.rr (fun x => box_Meet.f x.1 x.2.1 x.2.2.1 x.2.2.2.1 x.2.2.2.2.1 x.2.2.2.2.2.1 x.2.2.2.2.2.2.1 x.2.2.2.2.2.2.2) (a0_0, a0_1, a0_2, a0_3, a1_0, a1_1, a1_2, a1_3)
theorem box_Meet.is : FnIs Try.prog 28 (.init box_Meet.sg) box_Meet.t box_Meet.cf := ⟨Try.f28, box_Meet.body, 6000, Try.func28, by kernel_rfl, rfl, rfl, by decide +kernel, by kernel_rfl⟩
theorem box_Meet.den (F : FnE) (K : Nat) (h31 : F 31 = box_Empty.app) (a0_0 : Int) (a0_1 : Int) (a0_2 : Int) (a0_3 : Int) (a1_0 : Int) (a1_1 : Int) (a1_2 : Int) (a1_3 : Int) : Sy.den F K box_Meet.t [] [.int a0_0, .int a0_1, .int a0_2, .int a0_3, .int a1_0, .int a1_1, .int a1_2, .int a1_3] = (box_Meet.f a0_0 a0_1 a0_2 a0_3 a1_0 a1_1 a1_2 a1_3).map box_Meet.rr.en := by
  unfold box_Meet.t box_Meet.f
  refine den_ask (ps := [.int (mxi a0_0 a1_0), .int (mxi a0_1 a1_1), .int (mni a0_2 a1_2), .int (mni a0_3 a1_3)]) (rr := box_Empty.rr) (G := box_Empty.f (mxi a0_0 a1_0) (mxi a0_1 a1_1) (mni a0_2 a1_2) (mni a0_3 a1_3)) (by rw [h31]; exact box_Empty.ap (mxi a0_0 a1_0) (mxi a0_1 a1_1) (mni a0_2 a1_2) (mni a0_3 a1_3)) rfl rfl fun b0 => ?_
  show Sy.den F K _ _ [.int a0_0, .int a0_1, .int a0_2, .int a0_3, .int a1_0, .int a1_1, .int a1_2, .int a1_3, .bool b0] = _
  refine den_ite (b := b0) rfl ?_ ?_
  exact den_ret rfl
  exact den_ret rfl
theorem box_Meet.ok (F : FnE) (K : Nat) (h31 : F 31 = box_Empty.app) (ps r : List PD) (h : box_Meet.app ps = some r) : Sy.den F K box_Meet.t [] ps = some r := by
  obtain ⟨a, rfl, h2⟩ := app_ok (ra := box_Meet.ra) (rr := box_Meet.rr) (f := fun x => box_Meet.f x.1 x.2.1 x.2.2.1 x.2.2.2.1 x.2.2.2.2.1 x.2.2.2.2.2.1 x.2.2.2.2.2.2.1 x.2.2.2.2.2.2.2) h
  rw [← h2]
  exact box_Meet.den F K h31 (a.1) (a.2.1) (a.2.2.1) (a.2.2.2.1) (a.2.2.2.2.1) (a.2.2.2.2.2.1) (a.2.2.2.2.2.2.1) (a.2.2.2.2.2.2.2)
noncomputable def l28 (K : Nat) : List (Nat × App) := (28, box_Meet.app) :: l23 K
theorem gd28 (K : Nat) : Sy.Good Try.prog fns (mkF (l28 K)) := good_cons (K := K) box_Meet.is rfl (by kernel_rfl) (by decide +kernel) envOk relOk relNp mix (gd23 K) (exts_ok rfl rfl rfl rfl) (box_Meet.ok _ K rfl)
/-! ### gatherumlaw04_alive: function 22 -/
noncomputable def gatherumlaw04_alive.body : Code := Try.f22.body.getD .skip
noncomputable def gatherumlaw04_alive.sg : List S1 := []
noncomputable def gatherumlaw04_alive.sh : Sh := (.one (.one .b))
noncomputable def gatherumlaw04_alive.cf : Cfg := ⟨env, Try.f22.ntmps, Try.f22.results.toList, some gatherumlaw04_alive.sh, rel, [], [], (exts Try.f22.ntmps)⟩
noncomputable def gatherumlaw04_alive.t : Tree := (.ask 28 [(.ex (.nu 0)), (.ex (.nu 0)), (.ex (.nu 4)), (.ex (.nu 4)), (.ex (.nu 2)), (.ex (.nu 3)), (.ex (.nu 9)), (.ex (.nu 9))] [.i, .i, .i, .i] (.ite (.and (.eq (.va 0) (.nu 2)) (.and (.eq (.va 1) (.nu 3)) (.and (.eq (.va 2) (.nu 4)) (.eq (.va 3) (.nu 4))))) (.ask 31 [(.ex (.va 0)), (.ex (.va 1)), (.ex (.va 2)), (.ex (.va 3))] [.b] (.ite (.not (.va 4)) (.ask 23 [(.ex (.va 0)), (.ex (.va 1)), (.ex (.va 2)), (.ex (.va 3)), (.bo (.co true)), (.ex (.nu 3))] [(.l 27 4)] (.ret [(.bo (.eq (.lens [5] 0) (.nu 2)))])) (.ret [(.bo (.co false))]))) (.ret [(.bo (.co false))])))
noncomputable def gatherumlaw04_alive.ra : Rw (Unit) := rwU
noncomputable def gatherumlaw04_alive.rr : Rw (Bool) := rwB
theorem gatherumlaw04_alive.rr_en (r : Bool) : gatherumlaw04_alive.rr.en r = [.bool r] := rfl
noncomputable def gatherumlaw04_alive.f : Option (Bool) := ((box_Meet.f 0 0 4 4 2 3 9 9).bind fun b0 => (if ((b0.1 == 2) && ((b0.2.1 == 3) && ((b0.2.2.1 == 4) && (b0.2.2.2 == 4)))) = true then ((box_Empty.f b0.1 b0.2.1 b0.2.2.1 b0.2.2.2).bind fun b1 => (if (!b1) = true then ((box_Split.f b0.1 b0.2.1 b0.2.2.1 b0.2.2.2 true 3).bind fun b2 => some (((b2.length : Nat) : Int) == 2)) else some false)) else some false))
noncomputable def gatherumlaw04_alive.app : App := fun ps => (gatherumlaw04_alive.ra.de ps).bind fun x => (gatherumlaw04_alive.f).map gatherumlaw04_alive.rr.en
theorem gatherumlaw04_alive.ap : gatherumlaw04_alive.app [] = (gatherumlaw04_alive.f).map gatherumlaw04_alive.rr.en := app_ap gatherumlaw04_alive.ra gatherumlaw04_alive.rr (fun x => gatherumlaw04_alive.f) ()
theorem gatherumlaw04_alive.is : FnIs Try.prog 22 (.init gatherumlaw04_alive.sg) gatherumlaw04_alive.t gatherumlaw04_alive.cf := ⟨Try.f22, gatherumlaw04_alive.body, 6000, Try.func22, by kernel_rfl, rfl, rfl, by decide +kernel, by kernel_rfl⟩
theorem gatherumlaw04_alive.den (F : FnE) (K : Nat) (h23 : F 23 = box_Split.app) (h28 : F 28 = box_Meet.app) (h31 : F 31 = box_Empty.app) : Sy.den F K gatherumlaw04_alive.t [] [] = (gatherumlaw04_alive.f).map gatherumlaw04_alive.rr.en := by
  unfold gatherumlaw04_alive.t gatherumlaw04_alive.f
  refine den_ask (ps := [.int 0, .int 0, .int 4, .int 4, .int 2, .int 3, .int 9, .int 9]) (rr := box_Meet.rr) (G := box_Meet.f 0 0 4 4 2 3 9 9) (by rw [h28]; exact box_Meet.ap 0 0 4 4 2 3 9 9) rfl rfl fun b0 => ?_
  show Sy.den F K _ _ [.int b0.1, .int b0.2.1, .int b0.2.2.1, .int b0.2.2.2] = _
  refine den_ite (b := ((b0.1 == 2) && ((b0.2.1 == 3) && ((b0.2.2.1 == 4) && (b0.2.2.2 == 4))))) rfl ?_ ?_
  refine den_ask (ps := [.int b0.1, .int b0.2.1, .int b0.2.2.1, .int b0.2.2.2]) (rr := box_Empty.rr) (G := box_Empty.f b0.1 b0.2.1 b0.2.2.1 b0.2.2.2) (by rw [h31]; exact box_Empty.ap b0.1 b0.2.1 b0.2.2.1 b0.2.2.2) rfl rfl fun b1 => ?_
  show Sy.den F K _ _ [.int b0.1, .int b0.2.1, .int b0.2.2.1, .int b0.2.2.2, .bool b1] = _
  refine den_ite (b := (!b1)) rfl ?_ ?_
  refine den_ask (ps := [.int b0.1, .int b0.2.1, .int b0.2.2.1, .int b0.2.2.2, .bool true, .int 3]) (rr := box_Split.rr) (G := box_Split.f b0.1 b0.2.1 b0.2.2.1 b0.2.2.2 true 3) (by rw [h23]; exact box_Split.ap b0.1 b0.2.1 b0.2.2.1 b0.2.2.2 true 3) rfl rfl fun b2 => ?_
  show Sy.den F K _ _ [.int b0.1, .int b0.2.1, .int b0.2.2.1, .int b0.2.2.2, .bool b1, .lst 4 (b2.map rw_iiii.en)] = _
  exact den_ret (by simp only [pds, PC.pd, E.ev, B.ev, SE.ev, LE.rows, lensEv, kSl_eq, kPt_eq, ov_prop, List.getElem?_cons_zero, List.getElem?_cons_succ, List.length_map, Nat.add_zero, Nat.zero_add, Option.bind_some, Option.map_some, if_true, Subtype.eta, mxi, mni, List.map_append, List.map_cons, List.map_nil, List.cons_append, List.nil_append, List.append_nil, gatherumlaw04_alive.rr_en])
  exact den_ret rfl
  exact den_ret rfl
theorem gatherumlaw04_alive.ok (F : FnE) (K : Nat) (h23 : F 23 = box_Split.app) (h28 : F 28 = box_Meet.app) (h31 : F 31 = box_Empty.app) (ps r : List PD) (h : gatherumlaw04_alive.app ps = some r) : Sy.den F K gatherumlaw04_alive.t [] ps = some r := by
  obtain ⟨a, rfl, h2⟩ := app_ok (ra := gatherumlaw04_alive.ra) (rr := gatherumlaw04_alive.rr) (f := fun x => gatherumlaw04_alive.f) h
  rw [← h2]
  exact gatherumlaw04_alive.den F K h23 h28 h31
noncomputable def l22 (K : Nat) : List (Nat × App) := (22, gatherumlaw04_alive.app) :: l28 K
theorem gd22 (K : Nat) : Sy.Good Try.prog fns (mkF (l22 K)) := good_cons (K := K) gatherumlaw04_alive.is rfl (by kernel_rfl) (by decide +kernel) envOk relOk relNp mix (gd28 K) (exts_ok rfl rfl rfl rfl) (gatherumlaw04_alive.ok _ K rfl rfl rfl)
/-! ### gatherumlaw04_walked: function 47: by hand -/
noncomputable def gatherumlaw04_walked.sg : List S1 := [(.agg [.i, .i, .i, .i]), (.one .i)]
noncomputable def gatherumlaw04_walked.sh : Sh := (.one (.one (.l 25 2)))
noncomputable def gatherumlaw04_walked.ra : Rw (Int × Int × Int × Int × Int) := (rwP rwI (rwP rwI (rwP rwI (rwP rwI rwI))))
noncomputable def gatherumlaw04_walked.rr : Rw (List (Int × Int)) := (rwL 25 2 rw_ii rfl)
theorem gatherumlaw04_walked.rr_en (r : List (Int × Int)) : gatherumlaw04_walked.rr.en r = [.lst 2 (r.map rw_ii.en)] := rfl
noncomputable def gatherumlaw04_walked.f (a0_0 : Int) (a0_1 : Int) (a0_2 : Int) (a0_3 : Int) (a1 : Int) : Option (List (Int × Int)) := Hw.gatherumlaw04_walked a0_0 a0_1 a0_2 a0_3 a1
noncomputable def gatherumlaw04_walked.app : App := fun ps => (gatherumlaw04_walked.ra.de ps).bind fun x => (gatherumlaw04_walked.f x.1 x.2.1 x.2.2.1 x.2.2.2.1 x.2.2.2.2).map gatherumlaw04_walked.rr.en
theorem gatherumlaw04_walked.ap (a0_0 : Int) (a0_1 : Int) (a0_2 : Int) (a0_3 : Int) (a1 : Int) : gatherumlaw04_walked.app [.int a0_0, .int a0_1, .int a0_2, .int a0_3, .int a1] = (gatherumlaw04_walked.f a0_0 a0_1 a0_2 a0_3 a1).map gatherumlaw04_walked.rr.en := app_ap gatherumlaw04_walked.ra gatherumlaw04_walked.rr (fun x => gatherumlaw04_walked.f x.1 x.2.1 x.2.2.1 x.2.2.2.1 x.2.2.2.2) (a0_0, a0_1, a0_2, a0_3, a1)
theorem pts_rows {w : World} {S : Nat → Prop} : ∀ (l : List (Int × Int)), RepRows w S 2 (l.map rw_ii.en) (l.map Hw.ptL)
  | [] => trivial
  | x :: l => ⟨⟨rfl, .int x.1, .int x.2, trivial⟩, pts_rows l⟩
theorem gatherumlaw04_walked.hand : HandOk Try.prog 47 gatherumlaw04_walked.sg gatherumlaw04_walked.sh gatherumlaw04_walked.app := by
  refine ⟨enters_of Try.func47 (by kernel_rfl) rfl, fun ps r h args w S hS hargs => ?_⟩
  obtain ⟨a, rfl, h2⟩ := app_ok (ra := gatherumlaw04_walked.ra) (rr := gatherumlaw04_walked.rr) (f := fun x => gatherumlaw04_walked.f x.1 x.2.1 x.2.2.1 x.2.2.2.1 x.2.2.2.2) h
  simp only [gatherumlaw04_walked.f, Hw.gatherumlaw04_walked, Option.map_some, Option.some.injEq] at h2
  subst h2
  obtain ⟨a1, a2, a3, a4, a5⟩ := a
  obtain ⟨p1, p2, v, us, hp, rfl, ⟨vs, rfl, ho, hrow⟩, p3, p4, v2, us2, hp2, rfl, ⟨p5, rfl, ho5, hr5⟩, rfl, rfl⟩ := hargs
  have hl := K4.oks_length ho
  match p1, hl, hrow, hp with
  | [q1, q2, q3, q4], _, hrow, hp =>
    have hp' : [PD.int a1, .int a2, .int a3, .int a4, .int a5] = [q1, q2, q3, q4] ++ p2 := hp
    simp only [List.cons_append, List.nil_append, List.cons.injEq] at hp'
    obtain ⟨rfl, rfl, rfl, rfl, hp2'⟩ := hp'
    rw [← hp2'] at hp2
    simp only [List.cons_append, List.nil_append, List.cons.injEq, and_true] at hp2
    subst hp2
    match vs, hrow with
    | [v1, v2', v3, v4], hrow =>
      obtain ⟨h1, h2, h3, h4, _⟩ := hrow
      cases h1; cases h2; cases h3; cases h4; cases hr5
      refine Calls.mono ((callsIn_wide (n := 3)).1 (Hw.walked_in Fence.wide 3 trivial trivial trivial rfl (by omega) a1 a2 a3 a4 a5 w)) fun e w' he => ?_
      obtain ⟨u, rfl, hown, hb⟩ := he
      refine ⟨⟨_, rfl, rfl, ?_⟩, hb⟩
      exact rep_of_own (pts_rows (Hw.wkd a1 a2 a3 a4 a5)) hown (by simp) fun b h1 h2 => .inr ⟨h1, h2⟩
noncomputable def l47 (K : Nat) : List (Nat × App) := (47, gatherumlaw04_walked.app) :: l22 K
theorem gd47 (K : Nat) : Sy.Good Try.prog fns (mkF (l47 K)) := good_hand (gd22 K) (by kernel_rfl) gatherumlaw04_walked.hand
/-! ### gatherumlaw04_BoxCorners: function 10 -/
noncomputable def gatherumlaw04_BoxCorners.body : Code := Try.f10.body.getD .skip
noncomputable def gatherumlaw04_BoxCorners.sg : List S1 := [(.agg [.i, .i, .i, .i]), (.one .i)]
noncomputable def gatherumlaw04_BoxCorners.sh : Sh := (.one (.one .b))
noncomputable def gatherumlaw04_BoxCorners.cf : Cfg := ⟨env, Try.f10.ntmps, Try.f10.results.toList, some gatherumlaw04_BoxCorners.sh, rel, [6, 12], [((12, 2694, 8), ⟨[], [], [(8, [(0, .i)])], []⟩), ((6, 1990, 7), ⟨[], [], [(6, [(0, .i)])], []⟩), ((12, 2695, 9), ⟨[], [], [(8, [(0, .i)])], []⟩)], (exts Try.f10.ntmps)⟩
noncomputable def gatherumlaw04_BoxCorners.b1 : Tree := (.ite (.lt (.va 9) (.add (.nu 1) (.and (.va 4) (.nu 3)))) (.ite (.le (.nu 0) (.va 9)) (.ite (.lt (.va 9) (.lens [8] 0)) (.get 8 (.va 9) [.i, .i] (.ite (.lt (.va 9) (.lens [6] 0)) (.get 6 (.va 9) [.i, .i] (.ite (.not (.and (.eq (.va 10) (.va 12)) (.eq (.va 11) (.va 13)))) (.ret [(.bo (.co false))]) (.back 0 9 [(.ex (.add (.va 9) (.nu 1)))]))) .bad)) .bad) .bad) (.back 1 7 [(.ex (.add (.va 7) (.nu 1)))]))
noncomputable def gatherumlaw04_BoxCorners.b0 : Tree := (.ite (.lt (.va 7) (.nu 2)) (.ask 47 [(.ex (.va 0)), (.ex (.va 1)), (.ex (.va 2)), (.ex (.va 3)), (.ex (.add (.nu 1) (.and (.va 4) (.nu 3))))] [(.l 25 2)] (.ite (.not (.eq (.lens [8] 0) (.add (.nu 1) (.and (.va 4) (.nu 3))))) (.ret [(.bo (.co false))]) (.loop [(.ex (.nu 0))] [.i] gatherumlaw04_BoxCorners.b1))) (.ask 47 [(.ex (.va 0)), (.ex (.va 1)), (.ex (.va 2)), (.ex (.va 3)), (.ex (.nu 9))] [(.l 25 2)] (.ret [(.bo (.eq (.lens [8] 0) (.nu 4)))])))
noncomputable def gatherumlaw04_BoxCorners.t : Tree := (.ask 22 [] [.b] (.ite (.not (.va 5)) (.ret [(.bo (.co false))]) (.fix [(.row [(.ex (.va 0)), (.ex (.va 1))]), (.row [(.ex (.va 2)), (.ex (.va 1))]), (.row [(.ex (.va 2)), (.ex (.va 3))]), (.row [(.ex (.va 0)), (.ex (.va 3))])] 2 (.loop [(.ex (.nu 0))] [.i] gatherumlaw04_BoxCorners.b0))))
noncomputable def gatherumlaw04_BoxCorners.ra : Rw (Int × Int × Int × Int × Int) := (rwP rwI (rwP rwI (rwP rwI (rwP rwI rwI))))
noncomputable def gatherumlaw04_BoxCorners.rr : Rw (Bool) := rwB
theorem gatherumlaw04_BoxCorners.rr_en (r : Bool) : gatherumlaw04_BoxCorners.rr.en r = [.bool r] := rfl
noncomputable def gatherumlaw04_BoxCorners.l1 (j0 : (Int) → Option (Bool)) (p4 : Int) (p6 : List (Int × Int)) (p7 : Int) (p8 : List (Int × Int)) : Nat → (Int) → Option (Bool)
  | 0, _ => none
  | k + 1, x0 => (if (decide (x0 < (wrap64 (1 + (Go.bits .and .i64 p4 3))))) = true then (if (decide (0 ≤ x0)) = true then (if (decide (x0 < ((p8.length : Nat) : Int))) = true then ((p8[(x0 : Int).toNat]?).bind fun b0 => (if (decide (x0 < ((p6.length : Nat) : Int))) = true then ((p6[(x0 : Int).toNat]?).bind fun b1 => (if (!((b0.1 == b1.1) && (b0.2 == b1.2))) = true then some false else (gatherumlaw04_BoxCorners.l1 j0 p4 p6 p7 p8 k (wrap64 (x0 + 1))))) else none)) else none) else none) else (j0 (wrap64 (p7 + 1))))
noncomputable def gatherumlaw04_BoxCorners.l0 (K : Nat) (p0 : Int) (p1 : Int) (p2 : Int) (p3 : Int) (p4 : Int) (p6 : List (Int × Int)) : Nat → (Int) → Option (Bool)
  | 0, _ => none
  | k + 1, x0 => (if (decide (x0 < 2)) = true then ((gatherumlaw04_walked.f p0 p1 p2 p3 (wrap64 (1 + (Go.bits .and .i64 p4 3)))).bind fun b0 => (if (!(((b0.length : Nat) : Int) == (wrap64 (1 + (Go.bits .and .i64 p4 3))))) = true then some false else (gatherumlaw04_BoxCorners.l1 (fun y0 => gatherumlaw04_BoxCorners.l0 K p0 p1 p2 p3 p4 p6 k y0) p4 p6 x0 b0 K 0))) else ((gatherumlaw04_walked.f p0 p1 p2 p3 9).bind fun b0 => some (((b0.length : Nat) : Int) == 4)))
noncomputable def gatherumlaw04_BoxCorners.f (K : Nat) (a0_0 : Int) (a0_1 : Int) (a0_2 : Int) (a0_3 : Int) (a1 : Int) : Option (Bool) := ((gatherumlaw04_alive.f).bind fun b0 => (if (!b0) = true then some false else (gatherumlaw04_BoxCorners.l0 K a0_0 a0_1 a0_2 a0_3 a1 ((a0_0, a0_1) :: ((a0_2, a0_1) :: ((a0_2, a0_3) :: [(a0_0, a0_3)]))) K 0)))
noncomputable def gatherumlaw04_BoxCorners.app (K : Nat) : App := fun ps => (gatherumlaw04_BoxCorners.ra.de ps).bind fun x => (gatherumlaw04_BoxCorners.f K x.1 x.2.1 x.2.2.1 x.2.2.2.1 x.2.2.2.2).map gatherumlaw04_BoxCorners.rr.en
theorem gatherumlaw04_BoxCorners.ap (K : Nat) (a0_0 : Int) (a0_1 : Int) (a0_2 : Int) (a0_3 : Int) (a1 : Int) : gatherumlaw04_BoxCorners.app K [.int a0_0, .int a0_1, .int a0_2, .int a0_3, .int a1] = (gatherumlaw04_BoxCorners.f K a0_0 a0_1 a0_2 a0_3 a1).map gatherumlaw04_BoxCorners.rr.en := app_ap gatherumlaw04_BoxCorners.ra gatherumlaw04_BoxCorners.rr (fun x => gatherumlaw04_BoxCorners.f K x.1 x.2.1 x.2.2.1 x.2.2.2.1 x.2.2.2.2) (a0_0, a0_1, a0_2, a0_3, a1)
theorem gatherumlaw04_BoxCorners.is : FnIs Try.prog 10 (.init gatherumlaw04_BoxCorners.sg) gatherumlaw04_BoxCorners.t gatherumlaw04_BoxCorners.cf := ⟨Try.f10, gatherumlaw04_BoxCorners.body, 6000, Try.func10, by kernel_rfl, rfl, rfl, by decide +kernel, by kernel_rfl⟩
theorem gatherumlaw04_BoxCorners.l1_den (F : FnE) (K : Nat) (h22 : F 22 = gatherumlaw04_alive.app) (h47 : F 47 = gatherumlaw04_walked.app) (Js : List (List PD → Option (List PD))) (J0 : List PD → Option (List PD)) (j0 : (Int) → Option (Bool)) (p0 : Int) (p1 : Int) (p2 : Int) (p3 : Int) (p4 : Int) (p5 : Bool) (p6 : List (Int × Int)) (p7 : Int) (p8 : List (Int × Int)) (hJ0 : ∀ (y0 : Int), J0 [.int p0, .int p1, .int p2, .int p3, .int p4, .bool p5, .lst 2 (p6.map rw_ii.en), .int y0] = (j0 y0).map gatherumlaw04_BoxCorners.rr.en) : ∀ (k : Nat) (x0 : Int), iterF (fun J ρ' => den F K gatherumlaw04_BoxCorners.b1 (J :: J0 :: Js) ρ') k [.int p0, .int p1, .int p2, .int p3, .int p4, .bool p5, .lst 2 (p6.map rw_ii.en), .int p7, .lst 2 (p8.map rw_ii.en), .int x0] = (gatherumlaw04_BoxCorners.l1 j0 p4 p6 p7 p8 k x0).map gatherumlaw04_BoxCorners.rr.en := by
  intro k
  induction k with
  | zero => intros; rfl
  | succ k ih =>
    intro x0
    show Sy.den F K gatherumlaw04_BoxCorners.b1 (iterF (fun J ρ' => Sy.den F K gatherumlaw04_BoxCorners.b1 (J :: J0 :: Js) ρ') k :: J0 :: Js) [.int p0, .int p1, .int p2, .int p3, .int p4, .bool p5, .lst 2 (p6.map rw_ii.en), .int p7, .lst 2 (p8.map rw_ii.en), .int x0] = _
    revert ih
    generalize iterF (fun J ρ' => Sy.den F K gatherumlaw04_BoxCorners.b1 (J :: J0 :: Js) ρ') k = J1
    intro ih
    rw [gatherumlaw04_BoxCorners.l1]
    show Sy.den F K gatherumlaw04_BoxCorners.b1 _ [.int p0, .int p1, .int p2, .int p3, .int p4, .bool p5, .lst 2 (p6.map rw_ii.en), .int p7, .lst 2 (p8.map rw_ii.en), .int x0] = _
    unfold gatherumlaw04_BoxCorners.b1
    refine den_ite (b := (decide (x0 < (wrap64 (1 + (Go.bits .and .i64 p4 3)))))) rfl ?_ ?_
    refine den_ite (b := (decide (0 ≤ x0))) rfl ?_ ?_
    refine den_ite (b := (decide (x0 < ((p8.length : Nat) : Int)))) (by simp only [pds, PC.pd, E.ev, B.ev, SE.ev, LE.rows, lensEv, kSl_eq, kPt_eq, ov_prop, List.getElem?_cons_zero, List.getElem?_cons_succ, List.length_map, Nat.add_zero, Nat.zero_add, Option.bind_some, Option.map_some, if_true, Subtype.eta, mxi, mni, List.map_append, List.map_cons, List.map_nil, List.cons_append, List.nil_append, List.append_nil]) ?_ ?_
    refine den_get (L := p8) (rw := rw_ii) rfl rfl rfl fun b0 => ?_
    show Sy.den F K _ _ [.int p0, .int p1, .int p2, .int p3, .int p4, .bool p5, .lst 2 (p6.map rw_ii.en), .int p7, .lst 2 (p8.map rw_ii.en), .int x0, .int b0.1, .int b0.2] = _
    refine den_ite (b := (decide (x0 < ((p6.length : Nat) : Int)))) (by simp only [pds, PC.pd, E.ev, B.ev, SE.ev, LE.rows, lensEv, kSl_eq, kPt_eq, ov_prop, List.getElem?_cons_zero, List.getElem?_cons_succ, List.length_map, Nat.add_zero, Nat.zero_add, Option.bind_some, Option.map_some, if_true, Subtype.eta, mxi, mni, List.map_append, List.map_cons, List.map_nil, List.cons_append, List.nil_append, List.append_nil]) ?_ ?_
    refine den_get (L := p6) (rw := rw_ii) rfl rfl rfl fun b1 => ?_
    show Sy.den F K _ _ [.int p0, .int p1, .int p2, .int p3, .int p4, .bool p5, .lst 2 (p6.map rw_ii.en), .int p7, .lst 2 (p8.map rw_ii.en), .int x0, .int b0.1, .int b0.2, .int b1.1, .int b1.2] = _
    refine den_ite (b := (!((b0.1 == b1.1) && (b0.2 == b1.2)))) rfl ?_ ?_
    exact den_ret rfl
    refine den_back (vs := [.int (wrap64 (x0 + 1))]) rfl rfl ?_
    exact ih (wrap64 (x0 + 1))
    exact den_bad _ _ _ _ _
    exact den_bad _ _ _ _ _
    exact den_bad _ _ _ _ _
    refine den_back (vs := [.int (wrap64 (p7 + 1))]) rfl rfl ?_
    exact hJ0 (wrap64 (p7 + 1))
theorem gatherumlaw04_BoxCorners.l0_den (F : FnE) (K : Nat) (h22 : F 22 = gatherumlaw04_alive.app) (h47 : F 47 = gatherumlaw04_walked.app) (Js : List (List PD → Option (List PD))) (p0 : Int) (p1 : Int) (p2 : Int) (p3 : Int) (p4 : Int) (p5 : Bool) (p6 : List (Int × Int)) : ∀ (k : Nat) (x0 : Int), iterF (fun J ρ' => den F K gatherumlaw04_BoxCorners.b0 (J :: Js) ρ') k [.int p0, .int p1, .int p2, .int p3, .int p4, .bool p5, .lst 2 (p6.map rw_ii.en), .int x0] = (gatherumlaw04_BoxCorners.l0 K p0 p1 p2 p3 p4 p6 k x0).map gatherumlaw04_BoxCorners.rr.en := by
  intro k
  induction k with
  | zero => intros; rfl
  | succ k ih =>
    intro x0
    show Sy.den F K gatherumlaw04_BoxCorners.b0 (iterF (fun J ρ' => Sy.den F K gatherumlaw04_BoxCorners.b0 (J :: Js) ρ') k :: Js) [.int p0, .int p1, .int p2, .int p3, .int p4, .bool p5, .lst 2 (p6.map rw_ii.en), .int x0] = _
    revert ih
    generalize iterF (fun J ρ' => Sy.den F K gatherumlaw04_BoxCorners.b0 (J :: Js) ρ') k = J0
    intro ih
    rw [gatherumlaw04_BoxCorners.l0]
    show Sy.den F K gatherumlaw04_BoxCorners.b0 _ [.int p0, .int p1, .int p2, .int p3, .int p4, .bool p5, .lst 2 (p6.map rw_ii.en), .int x0] = _
    unfold gatherumlaw04_BoxCorners.b0
    refine den_ite (b := (decide (x0 < 2))) rfl ?_ ?_
    refine den_ask (ps := [.int p0, .int p1, .int p2, .int p3, .int (wrap64 (1 + (Go.bits .and .i64 p4 3)))]) (rr := gatherumlaw04_walked.rr) (G := gatherumlaw04_walked.f p0 p1 p2 p3 (wrap64 (1 + (Go.bits .and .i64 p4 3)))) (by rw [h47]; exact gatherumlaw04_walked.ap p0 p1 p2 p3 (wrap64 (1 + (Go.bits .and .i64 p4 3)))) rfl rfl fun b0 => ?_
    show Sy.den F K _ _ [.int p0, .int p1, .int p2, .int p3, .int p4, .bool p5, .lst 2 (p6.map rw_ii.en), .int x0, .lst 2 (b0.map rw_ii.en)] = _
    refine den_ite (b := (!(((b0.length : Nat) : Int) == (wrap64 (1 + (Go.bits .and .i64 p4 3)))))) (by simp only [pds, PC.pd, E.ev, B.ev, SE.ev, LE.rows, lensEv, kSl_eq, kPt_eq, ov_prop, List.getElem?_cons_zero, List.getElem?_cons_succ, List.length_map, Nat.add_zero, Nat.zero_add, Option.bind_some, Option.map_some, if_true, Subtype.eta, mxi, mni, List.map_append, List.map_cons, List.map_nil, List.cons_append, List.nil_append, List.append_nil]) ?_ ?_
    exact den_ret rfl
    refine den_loop (vs := [.int 0]) rfl ?_
    exact gatherumlaw04_BoxCorners.l1_den F K h22 h47 Js J0 (fun y0 => gatherumlaw04_BoxCorners.l0 K p0 p1 p2 p3 p4 p6 k y0) p0 p1 p2 p3 p4 p5 p6 x0 b0 ih K 0
    refine den_ask (ps := [.int p0, .int p1, .int p2, .int p3, .int 9]) (rr := gatherumlaw04_walked.rr) (G := gatherumlaw04_walked.f p0 p1 p2 p3 9) (by rw [h47]; exact gatherumlaw04_walked.ap p0 p1 p2 p3 9) rfl rfl fun b0 => ?_
    show Sy.den F K _ _ [.int p0, .int p1, .int p2, .int p3, .int p4, .bool p5, .lst 2 (p6.map rw_ii.en), .int x0, .lst 2 (b0.map rw_ii.en)] = _
    exact den_ret (by simp only [pds, PC.pd, E.ev, B.ev, SE.ev, LE.rows, lensEv, kSl_eq, kPt_eq, ov_prop, List.getElem?_cons_zero, List.getElem?_cons_succ, List.length_map, Nat.add_zero, Nat.zero_add, Option.bind_some, Option.map_some, if_true, Subtype.eta, mxi, mni, List.map_append, List.map_cons, List.map_nil, List.cons_append, List.nil_append, List.append_nil, gatherumlaw04_BoxCorners.rr_en])
theorem gatherumlaw04_BoxCorners.den (F : FnE) (K : Nat) (h22 : F 22 = gatherumlaw04_alive.app) (h47 : F 47 = gatherumlaw04_walked.app) (a0_0 : Int) (a0_1 : Int) (a0_2 : Int) (a0_3 : Int) (a1 : Int) : Sy.den F K gatherumlaw04_BoxCorners.t [] [.int a0_0, .int a0_1, .int a0_2, .int a0_3, .int a1] = (gatherumlaw04_BoxCorners.f K a0_0 a0_1 a0_2 a0_3 a1).map gatherumlaw04_BoxCorners.rr.en := by
  unfold gatherumlaw04_BoxCorners.t gatherumlaw04_BoxCorners.f
  refine den_ask (ps := []) (rr := gatherumlaw04_alive.rr) (G := gatherumlaw04_alive.f) (by rw [h22]; exact gatherumlaw04_alive.ap) rfl rfl fun b0 => ?_
  show Sy.den F K _ _ [.int a0_0, .int a0_1, .int a0_2, .int a0_3, .int a1, .bool b0] = _
  refine den_ite (b := (!b0)) rfl ?_ ?_
  exact den_ret rfl
  refine den_fix (rows := List.map rw_ii.en ((a0_0, a0_1) :: ((a0_2, a0_1) :: ((a0_2, a0_3) :: [(a0_0, a0_3)])))) (by simp only [pds, PC.pd, E.ev, B.ev, SE.ev, LE.rows, lensEv, kSl_eq, kPt_eq, ov_prop, List.getElem?_cons_zero, List.getElem?_cons_succ, List.length_map, Nat.add_zero, Nat.zero_add, Option.bind_some, Option.map_some, if_true, Subtype.eta, mxi, mni, List.map_append, List.map_cons, List.map_nil, List.cons_append, List.nil_append, List.append_nil, rw_ii_en]) ?_
  show Sy.den F K _ _ [.int a0_0, .int a0_1, .int a0_2, .int a0_3, .int a1, .bool b0, .lst 2 (((a0_0, a0_1) :: ((a0_2, a0_1) :: ((a0_2, a0_3) :: [(a0_0, a0_3)]))).map rw_ii.en)] = _
  refine den_loop (vs := [.int 0]) rfl ?_
  exact gatherumlaw04_BoxCorners.l0_den F K h22 h47 [] a0_0 a0_1 a0_2 a0_3 a1 b0 ((a0_0, a0_1) :: ((a0_2, a0_1) :: ((a0_2, a0_3) :: [(a0_0, a0_3)]))) K 0
theorem gatherumlaw04_BoxCorners.ok (F : FnE) (K : Nat) (h22 : F 22 = gatherumlaw04_alive.app) (h47 : F 47 = gatherumlaw04_walked.app) (ps r : List PD) (h : gatherumlaw04_BoxCorners.app K ps = some r) : Sy.den F K gatherumlaw04_BoxCorners.t [] ps = some r := by
  obtain ⟨a, rfl, h2⟩ := app_ok (ra := gatherumlaw04_BoxCorners.ra) (rr := gatherumlaw04_BoxCorners.rr) (f := fun x => gatherumlaw04_BoxCorners.f K x.1 x.2.1 x.2.2.1 x.2.2.2.1 x.2.2.2.2) h
  rw [← h2]
  exact gatherumlaw04_BoxCorners.den F K h22 h47 (a.1) (a.2.1) (a.2.2.1) (a.2.2.2.1) (a.2.2.2.2)
theorem gatherumlaw04_BoxCorners.calls (K : Nat) (a0_0 : Int) (a0_1 : Int) (a0_2 : Int) (a0_3 : Int) (a1 : Int) (w : World) (S : Nat → Prop) (hS : ∀ b, S b → b < w.heap.size) (vals : List Value) (hv : RepArgs w S gatherumlaw04_BoxCorners.sg [.int a0_0, .int a0_1, .int a0_2, .int a0_3, .int a1] vals) (h : gatherumlaw04_BoxCorners.f K a0_0 a0_1 a0_2 a0_3 a1 = some true) :
    Calls Try.prog 10 vals.toArray w fun e w' => e = .returned (.bool true) ∧ Below w.heap.size w w' := by
  refine (fn_callsD (r := [.bool true]) gatherumlaw04_BoxCorners.is rfl (by decide +kernel) envOk relOk relNp mix (exts_ok rfl rfl rfl rfl) (gd47 K) (Den_of_den _ [] [] _ (fun d j hj => by simp at hj) (by rw [gatherumlaw04_BoxCorners.den _ K rfl rfl, h]; rfl)) hS hv).mono fun e w' he => ?_
  cases e with
  | returned u => exact ⟨by rw [bool_ans he.1], he.2⟩
  | panicked c => exact he.elim
  | outgrown => exact he.elim
end Go.Proofs.Ytnahjeeochfljaa.XBoxCorners
