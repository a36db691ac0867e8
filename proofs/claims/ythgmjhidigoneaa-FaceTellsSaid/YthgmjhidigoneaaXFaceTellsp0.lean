/- What the functions of the law FaceTells compute: written by sygen.py from the executor's answers. -/
import Derived.Test.YthgmjhidigoneaaSyB
import Derived.Test.YthgmjhidigoneaaProg
import Derived.KernelRfl
set_option linter.unusedVariables false
set_option linter.unusedSimpArgs false
set_option maxRecDepth 100000
set_option maxHeartbeats 4000000
namespace Go.Proofs.Ythgmjhidigoneaa.XFaceTells
open Go Go.RowKit Go.Proofs Go.Proofs.Ythgmjhidigoneaa.Sy
noncomputable def cap1599289640401 : Int := 1599289640401
noncomputable def ty3 : TD := ⟨(TypeDesc.int IntKind.i64), (.int .i64 0), 1, 8⟩
noncomputable def ty4 : TD := ⟨TypeDesc.bool, (.bool false), 1, 1⟩
noncomputable def ty9 : TD := ⟨TypeDesc.string, (.string ByteArray.empty), 1, 16⟩
noncomputable def ty23 : TD := ⟨(TypeDesc.struct #[{ name := "X", type := 3, offset := 0, embedded := false, tag := "", pkgPath := "", byteOffset := 0 }, { name := "Y", type := 3, offset := 1, embedded := false, tag := "", pkgPath := "", byteOffset := 8 }]), (.agg #[.int .i64 0, .int .i64 0]), 2, 16⟩
noncomputable def ty24 : TD := ⟨(TypeDesc.slice 113), (.slice none 0 0), 1, 24⟩
noncomputable def ty26 : TD := ⟨(TypeDesc.struct #[{ name := "Cols", type := 3, offset := 0, embedded := false, tag := "", pkgPath := "", byteOffset := 0 }, { name := "Rows", type := 3, offset := 1, embedded := false, tag := "", pkgPath := "", byteOffset := 8 }, { name := "Steps", type := 24, offset := 2, embedded := false, tag := "", pkgPath := "", byteOffset := 16 }]), (.agg #[.int .i64 0, .int .i64 0, .slice none 0 0]), 3, 40⟩
noncomputable def ty27 : TD := ⟨(TypeDesc.slice 9), (.slice none 0 0), 1, 24⟩
noncomputable def ty29 : TD := ⟨(TypeDesc.struct #[{ name := "Title", type := 9, offset := 0, embedded := false, tag := "", pkgPath := "", byteOffset := 0 }, { name := "Pages", type := 3, offset := 1, embedded := false, tag := "", pkgPath := "", byteOffset := 16 }, { name := "Box", type := 23, offset := 2, embedded := false, tag := "", pkgPath := "", byteOffset := 24 }, { name := "W", type := 3, offset := 4, embedded := false, tag := "", pkgPath := "", byteOffset := 40 }, { name := "H", type := 3, offset := 5, embedded := false, tag := "", pkgPath := "", byteOffset := 48 }, { name := "Bleed", type := 3, offset := 6, embedded := false, tag := "", pkgPath := "", byteOffset := 56 }, { name := "Head", type := 3, offset := 7, embedded := false, tag := "", pkgPath := "", byteOffset := 64 }, { name := "Foot", type := 3, offset := 8, embedded := false, tag := "", pkgPath := "", byteOffset := 72 }, { name := "Face", type := 3, offset := 9, embedded := false, tag := "", pkgPath := "", byteOffset := 80 }, { name := "Spine", type := 3, offset := 10, embedded := false, tag := "", pkgPath := "", byteOffset := 88 }, { name := "Binding", type := 3, offset := 11, embedded := false, tag := "", pkgPath := "", byteOffset := 96 }, { name := "Folds", type := 26, offset := 12, embedded := false, tag := "", pkgPath := "", byteOffset := 104 }, { name := "Last", type := 27, offset := 15, embedded := false, tag := "", pkgPath := "", byteOffset := 144 }, { name := "Style", type := 3, offset := 16, embedded := false, tag := "", pkgPath := "", byteOffset := 168 }, { name := "SheetW", type := 3, offset := 17, embedded := false, tag := "", pkgPath := "", byteOffset := 176 }, { name := "SheetH", type := 3, offset := 18, embedded := false, tag := "", pkgPath := "", byteOffset := 184 }, { name := "Side", type := 3, offset := 19, embedded := false, tag := "", pkgPath := "", byteOffset := 192 }, { name := "Grip", type := 3, offset := 20, embedded := false, tag := "", pkgPath := "", byteOffset := 200 }, { name := "Tail", type := 3, offset := 21, embedded := false, tag := "", pkgPath := "", byteOffset := 208 }, { name := "Caliper", type := 3, offset := 22, embedded := false, tag := "", pkgPath := "", byteOffset := 216 }, { name := "Num", type := 3, offset := 23, embedded := false, tag := "", pkgPath := "", byteOffset := 224 }, { name := "Den", type := 3, offset := 24, embedded := false, tag := "", pkgPath := "", byteOffset := 232 }, { name := "Quarter", type := 3, offset := 25, embedded := false, tag := "", pkgPath := "", byteOffset := 240 }, { name := "MarkLen", type := 3, offset := 26, embedded := false, tag := "", pkgPath := "", byteOffset := 248 }, { name := "MarkOff", type := 3, offset := 27, embedded := false, tag := "", pkgPath := "", byteOffset := 256 }, { name := "MarkWide", type := 3, offset := 28, embedded := false, tag := "", pkgPath := "", byteOffset := 264 }, { name := "StairAt", type := 3, offset := 29, embedded := false, tag := "", pkgPath := "", byteOffset := 272 }, { name := "StairStep", type := 3, offset := 30, embedded := false, tag := "", pkgPath := "", byteOffset := 280 }, { name := "StairWrap", type := 3, offset := 31, embedded := false, tag := "", pkgPath := "", byteOffset := 288 }, { name := "StairWide", type := 3, offset := 32, embedded := false, tag := "", pkgPath := "", byteOffset := 296 }]), (.agg #[.string ByteArray.empty, .int .i64 0, .int .i64 0, .int .i64 0, .int .i64 0, .int .i64 0, .int .i64 0, .int .i64 0, .int .i64 0, .int .i64 0, .int .i64 0, .int .i64 0, .int .i64 0, .int .i64 0, .slice none 0 0, .slice none 0 0, .int .i64 0, .int .i64 0, .int .i64 0, .int .i64 0, .int .i64 0, .int .i64 0, .int .i64 0, .int .i64 0, .int .i64 0, .int .i64 0, .int .i64 0, .int .i64 0, .int .i64 0, .int .i64 0, .int .i64 0, .int .i64 0, .int .i64 0]), 33, 304⟩
noncomputable def ty32 : TD := ⟨(TypeDesc.struct #[{ name := "Turn", type := 3, offset := 0, embedded := false, tag := "", pkgPath := "", byteOffset := 0 }, { name := "X", type := 3, offset := 1, embedded := false, tag := "", pkgPath := "", byteOffset := 8 }, { name := "Y", type := 3, offset := 2, embedded := false, tag := "", pkgPath := "", byteOffset := 16 }]), (.agg #[.int .i64 0, .int .i64 0, .int .i64 0]), 3, 24⟩
noncomputable def ty37 : TD := ⟨(TypeDesc.struct #[{ name := "X0", type := 3, offset := 0, embedded := false, tag := "", pkgPath := "", byteOffset := 0 }, { name := "Y0", type := 3, offset := 1, embedded := false, tag := "", pkgPath := "", byteOffset := 8 }, { name := "X1", type := 3, offset := 2, embedded := false, tag := "", pkgPath := "", byteOffset := 16 }, { name := "Y1", type := 3, offset := 3, embedded := false, tag := "", pkgPath := "", byteOffset := 24 }]), (.agg #[.int .i64 0, .int .i64 0, .int .i64 0, .int .i64 0]), 4, 32⟩
noncomputable def ty55 : TD := ⟨(TypeDesc.struct #[{ name := "Box", type := 37, offset := 0, embedded := false, tag := "", pkgPath := "", byteOffset := 0 }, { name := "At", type := 32, offset := 4, embedded := false, tag := "", pkgPath := "", byteOffset := 32 }]), (.agg #[.int .i64 0, .int .i64 0, .int .i64 0, .int .i64 0, .int .i64 0, .int .i64 0, .int .i64 0]), 7, 56⟩
noncomputable def ty69 : TD := ⟨(TypeDesc.slice 77), (.slice none 0 0), 1, 24⟩
noncomputable def ty71 : TD := ⟨(TypeDesc.struct #[{ name := "W", type := 3, offset := 0, embedded := false, tag := "", pkgPath := "", byteOffset := 0 }, { name := "H", type := 3, offset := 1, embedded := false, tag := "", pkgPath := "", byteOffset := 8 }, { name := "Front", type := 69, offset := 2, embedded := false, tag := "", pkgPath := "", byteOffset := 16 }, { name := "Back", type := 69, offset := 3, embedded := false, tag := "", pkgPath := "", byteOffset := 40 }]), (.agg #[.int .i64 0, .int .i64 0, .slice none 0 0, .slice none 0 0]), 4, 64⟩
noncomputable def ty75 : TD := ⟨(TypeDesc.struct #[{ name := "Num", type := 3, offset := 0, embedded := false, tag := "", pkgPath := "", byteOffset := 0 }, { name := "At", type := 32, offset := 1, embedded := false, tag := "", pkgPath := "", byteOffset := 8 }, { name := "Clip", type := 37, offset := 4, embedded := false, tag := "", pkgPath := "", byteOffset := 32 }, { name := "Pages", type := 3, offset := 8, embedded := false, tag := "", pkgPath := "", byteOffset := 64 }, { name := "Marks", type := 3, offset := 9, embedded := false, tag := "", pkgPath := "", byteOffset := 72 }]), (.agg #[.int .i64 0, .int .i64 0, .int .i64 0, .int .i64 0, .int .i64 0, .int .i64 0, .int .i64 0, .int .i64 0, .int .i64 0, .int .i64 0]), 10, 80⟩
noncomputable def ty77 : TD := ⟨(TypeDesc.struct #[{ name := "Kind", type := 3, offset := 0, embedded := false, tag := "", pkgPath := "", byteOffset := 0 }, { name := "Num", type := 3, offset := 1, embedded := false, tag := "", pkgPath := "", byteOffset := 8 }, { name := "At", type := 32, offset := 2, embedded := false, tag := "", pkgPath := "", byteOffset := 16 }, { name := "Clip", type := 37, offset := 5, embedded := false, tag := "", pkgPath := "", byteOffset := 40 }, { name := "Text", type := 9, offset := 9, embedded := false, tag := "", pkgPath := "", byteOffset := 72 }]), (.agg #[.int .i64 0, .int .i64 0, .int .i64 0, .int .i64 0, .int .i64 0, .int .i64 0, .int .i64 0, .int .i64 0, .int .i64 0, .string ByteArray.empty]), 10, 88⟩
noncomputable def ty96 : TD := ⟨(TypeDesc.struct #[{ name := "A", type := 3, offset := 0, embedded := false, tag := "", pkgPath := "", byteOffset := 0 }, { name := "B", type := 3, offset := 1, embedded := false, tag := "", pkgPath := "", byteOffset := 8 }, { name := "C", type := 3, offset := 2, embedded := false, tag := "", pkgPath := "", byteOffset := 16 }, { name := "D", type := 3, offset := 3, embedded := false, tag := "", pkgPath := "", byteOffset := 24 }]), (.agg #[.int .i64 0, .int .i64 0, .int .i64 0, .int .i64 0]), 4, 32⟩
noncomputable def ty113 : TD := ⟨(TypeDesc.struct #[{ name := "Side", type := 3, offset := 0, embedded := false, tag := "", pkgPath := "", byteOffset := 0 }, { name := "N", type := 3, offset := 1, embedded := false, tag := "", pkgPath := "", byteOffset := 8 }, { name := "Under", type := 4, offset := 2, embedded := false, tag := "", pkgPath := "", byteOffset := 16 }]), (.agg #[.int .i64 0, .int .i64 0, .bool false]), 3, 24⟩
noncomputable def tys : List (Nat × TD) := [(3, ty3), (4, ty4), (9, ty9), (23, ty23), (24, ty24), (26, ty26), (27, ty27), (29, ty29), (32, ty32), (37, ty37), (55, ty55), (69, ty69), (71, ty71), (75, ty75), (77, ty77), (96, ty96), (113, ty113)]
noncomputable def flats : List Nat := [23, 32, 37, 55, 75, 77, 96, 113]
noncomputable def kds : List (Nat × List K4) := [(3, [.i]), (4, [.b]), (9, [.s]), (23, [.i, .i]), (24, [.o]), (26, [.i, .i, .o]), (27, [.o]), (29, [.s, .i, .i, .i, .i, .i, .i, .i, .i, .i, .i, .i, .i, .i, .o, .o, .i, .i, .i, .i, .i, .i, .i, .i, .i, .i, .i, .i, .i, .i, .i, .i, .i]), (32, [.i, .i, .i]), (37, [.i, .i, .i, .i]), (55, [.i, .i, .i, .i, .i, .i, .i]), (69, [(.l 77 10)]), (71, [.i, .i, (.l 77 10), (.l 77 10)]), (75, [.i, .i, .i, .i, .i, .i, .i, .i, .i, .i]), (77, [.i, .i, .i, .i, .i, .i, .i, .i, .i, .s]), (96, [.i, .i, .i, .i]), (113, [.i, .i, .b])]
noncomputable def fns : List (Nat × List S1 × Sh) := [(70, [(.agg [.i, .i, .i, .i]), (.one .i), (.one .i)], (.tup [(.one .i), (.one .i)])), (71, [(.one .i)], (.one (.agg [.i, .i, .i, .i]))), (17, [(.agg [.i, .i, .i]), (.agg [.i, .i])], (.one (.agg [.i, .i]))), (72, [(.one .i), (.one .i)], (.one (.one .i))), (73, [(.one .i), (.one .i)], (.one (.one .i))), (20, [(.agg [.i, .i, .i]), (.agg [.i, .i, .i, .i])], (.one (.agg [.i, .i, .i, .i]))), (82, [(.agg [.i, .i, .i, .i]), (.agg [.i, .i, .i, .i])], (.one (.agg [.i, .i, .i, .i]))), (85, [(.agg [.i, .i, .i, .i])], (.one (.one .i))), (42, [(.agg [.i, .i, .i]), (.agg [.i, .i, .i])], (.one (.agg [.i, .i, .i]))), (18, [(.agg [.i, .i, .i, .i])], (.one (.one .b))), (46, [(.agg [.i, .i, .i, .i]), (.agg [.i, .i, .i, .i])], (.one (.agg [.i, .i, .i, .i]))), (84, [(.one .i)], (.one (.one .b))), (41, [(.agg [.i, .i, .i, .i, .i, .i, .i])], (.one (.one .b))), (86, [(.agg [.i, .i, .i, .i])], (.one (.one .b))), (89, [(.agg [.i, .i, .i, .i]), (.agg [.i, .i, .i, .i])], (.one (.agg [.i, .i, .i, .i]))), (90, [(.agg [.i, .i, .i, .i]), (.agg [.i, .i, .i, .i])], (.one (.one .b))), (53, [(.one (.l 77 10)), (.agg [.i, .i, .i, .i])], (.one (.one (.l 77 10)))), (69, [(.one .i)], (.one (.agg [.i, .i, .i]))), (100, [(.one .i), (.agg [.i, .i])], (.one (.agg [.i, .i]))), (97, [(.agg [.i, .i, .i]), (.agg [.i, .i])], (.one (.agg [.i, .i]))), (98, [(.one .i), (.one .i)], (.one (.one .i))), (80, [(.agg [.i, .i, .i]), (.agg [.i, .i, .i])], (.one (.agg [.i, .i, .i]))), (83, [(.agg [.i, .i, .i]), (.agg [.i, .i, .i, .i])], (.one (.agg [.i, .i, .i, .i]))), (51, [(.agg [.s, .i, .i, .i, .i, .i, .i, .i, .i, .i, .i, .i, .i, .i, .o, .o, .i, .i, .i, .i, .i, .i, .i, .i, .i, .i, .i, .i, .i, .i, .i, .i, .i]), (.agg [.i, .i, (.l 77 10), (.l 77 10)]), (.agg [.i, .i, .i, .i, .i, .i, .i]), (.one .b)], (.one (.agg [.i, .i, .i, .i, .i, .i, .i, .i, .i, .i]))), (48, [], (.one (.one .b))), (49, [(.agg [.i, .i, (.l 77 10), (.l 77 10)])], (.one (.one .b))), (50, [(.one (.l 77 10)), (.agg [.i, .i, .i, .i])], (.one (.one (.l 77 10)))), (52, [(.one (.l 77 10)), (.one (.l 77 10))], (.one (.one .b))), (8, [(.agg [.s, .i, .i, .i, .i, .i, .i, .i, .i, .i, .i, .i, .i, .i, .o, .o, .i, .i, .i, .i, .i, .i, .i, .i, .i, .i, .i, .i, .i, .i, .i, .i, .i]), (.agg [.i, .i, (.l 77 10), (.l 77 10)]), (.agg [.i, .i, .i, .i, .i, .i, .i]), (.one .b)], (.one (.one .b)))]
noncomputable def env : Env := ⟨tys, eqsOf tys flats flats, kds, fns⟩
noncomputable def rel : List (Nat × RelE) := []
theorem tysOk : TysOk Try.prog tys := (tys_cons (tys_cons (tys_cons (tys_cons (tys_cons (tys_cons (tys_cons (tys_cons (tys_cons (tys_cons (tys_cons (tys_cons (tys_cons (tys_cons (tys_cons (tys_cons (tys_cons tys_nil (t := 113) (td := ty113) Try.underlying113 (by kernel_rfl)) (t := 96) (td := ty96) Try.underlying96 (by kernel_rfl)) (t := 77) (td := ty77) Try.underlying77 (by kernel_rfl)) (t := 75) (td := ty75) Try.underlying75 (by kernel_rfl)) (t := 71) (td := ty71) Try.underlying71 (by kernel_rfl)) (t := 69) (td := ty69) Try.underlying69 (by kernel_rfl)) (t := 55) (td := ty55) Try.underlying55 (by kernel_rfl)) (t := 37) (td := ty37) Try.underlying37 (by kernel_rfl)) (t := 32) (td := ty32) Try.underlying32 (by kernel_rfl)) (t := 29) (td := ty29) Try.underlying29 (by kernel_rfl)) (t := 27) (td := ty27) Try.underlying27 (by kernel_rfl)) (t := 26) (td := ty26) Try.underlying26 (by kernel_rfl)) (t := 24) (td := ty24) Try.underlying24 (by kernel_rfl)) (t := 23) (td := ty23) Try.underlying23 (by kernel_rfl)) (t := 9) (td := ty9) Try.underlying9 (by kernel_rfl)) (t := 4) (td := ty4) Try.underlying4 (by kernel_rfl)) (t := 3) (td := ty3) Try.underlying3 (by kernel_rfl))
theorem flatOk : FlatOk Try.prog flats := (flat_cons (flat_cons (flat_cons (flat_cons (flat_cons (flat_cons (flat_cons (flat_cons flat_nil (t := 113) (by kernel_rfl) (by kernel_rfl)) (t := 96) (by kernel_rfl) (by kernel_rfl)) (t := 77) (by kernel_rfl) (by kernel_rfl)) (t := 75) (by kernel_rfl) (by kernel_rfl)) (t := 55) (by kernel_rfl) (by kernel_rfl)) (t := 37) (by kernel_rfl) (by kernel_rfl)) (t := 32) (by kernel_rfl) (by kernel_rfl)) (t := 23) (by kernel_rfl) (by kernel_rfl))
theorem envOk : EnvOk Try.prog env := env_ok tysOk flatOk kds fns
theorem mix : Try.prog.follows .mixedOrders = true := by kernel_rfl
theorem relOk : GoodR Try.prog rel := goodR_nil
theorem relNp : RelNoPt rel := relNoPt_nil
noncomputable def l0 (K : Nat) : List (Nat × App) := []
theorem gd0 (K : Nat) : Sy.Good Try.prog fns (mkF (l0 K)) := good_nil
noncomputable def kSl : Ov := ⟨.slice none 0 0, rfl⟩
theorem kSl_eq : Value.slice none 0 0 = kSl.1 := rfl
noncomputable def kPt : Ov := ⟨.pointer none, rfl⟩
theorem kPt_eq : Value.pointer none = kPt.1 := rfl
noncomputable def rw_iiiiiiiiis : Rw (Int × Int × Int × Int × Int × Int × Int × Int × Int × ByteArray) := (rwP rwI (rwP rwI (rwP rwI (rwP rwI (rwP rwI (rwP rwI (rwP rwI (rwP rwI (rwP rwI rwS)))))))))
theorem rw_iiiiiiiiis_en (r : Int × Int × Int × Int × Int × Int × Int × Int × Int × ByteArray) : rw_iiiiiiiiis.en r = [.int r.1, .int r.2.1, .int r.2.2.1, .int r.2.2.2.1, .int r.2.2.2.2.1, .int r.2.2.2.2.2.1, .int r.2.2.2.2.2.2.1, .int r.2.2.2.2.2.2.2.1, .int r.2.2.2.2.2.2.2.2.1, .str r.2.2.2.2.2.2.2.2.2] := rfl
theorem rw_iiiiiiiiis_one (r0 : Int) (r1 : Int) (r2 : Int) (r3 : Int) (r4 : Int) (r5 : Int) (r6 : Int) (r7 : Int) (r8 : Int) (r9 : ByteArray) : ([[.int r0, .int r1, .int r2, .int r3, .int r4, .int r5, .int r6, .int r7, .int r8, .str r9]] : List (List PD)) = [(r0, r1, r2, r3, r4, r5, r6, r7, r8, r9)].map rw_iiiiiiiiis.en := rfl
theorem rw_iiiiiiiiis_cons (r0 : Int) (r1 : Int) (r2 : Int) (r3 : Int) (r4 : Int) (r5 : Int) (r6 : Int) (r7 : Int) (r8 : Int) (r9 : ByteArray) (l : List (Int × Int × Int × Int × Int × Int × Int × Int × Int × ByteArray)) : ([.int r0, .int r1, .int r2, .int r3, .int r4, .int r5, .int r6, .int r7, .int r8, .str r9] :: l.map rw_iiiiiiiiis.en : List (List PD)) = ((r0, r1, r2, r3, r4, r5, r6, r7, r8, r9) :: l).map rw_iiiiiiiiis.en := rfl
theorem rw_iiiiiiiiis_nil : (PD.lst 10 [] : PD) = PD.lst 10 (([] : List (Int × Int × Int × Int × Int × Int × Int × Int × Int × ByteArray)).map rw_iiiiiiiiis.en) := rfl
theorem den_ite {F : FnE} {K : Nat} {c : B} {x y : Tree} {Js : List (List PD → Option (List PD))} {ρ : List PD} {b : Bool} {α : Type} {X Y : Option α} {g : α → List PD} (hc : c.ev ρ = some b) (hx : Sy.den F K x Js ρ = X.map g) (hy : Sy.den F K y Js ρ = Y.map g) : Sy.den F K (.ite c x y) Js ρ = (if b = true then X else Y).map g := by
  rw [Sy.den, hc, Option.bind_some]; cases b
  · exact hy
  · exact hx
theorem den_ask {F : FnE} {K f : Nat} {args : List PC} {ks : List K4} {k : Tree} {Js : List (List PD → Option (List PD))} {ρ ps : List PD} {α β : Type} {G : Option β} {X : β → Option α} {g : α → List PD} {rr : Rw β} (ha : F f ps = G.map rr.en) (hp : pds ρ args = some ps) (hk : rr.ks = ks) (h : ∀ b, Sy.den F K k Js (ρ ++ rr.en b) = (X b).map g) : Sy.den F K (.ask f args ks k) Js ρ = (G.bind X).map g := by
  rw [Sy.den, hp, Option.bind_some, ha]
  cases G with
  | none => rfl
  | some b => subst hk; simp only [Option.map_some, Option.bind_some, rr.hok, if_true]; exact h b
theorem den_get {F : FnE} {K l sz : Nat} {i : E} {ks : List K4} {k : Tree} {Js : List (List PD → Option (List PD))} {ρ : List PD} {α β : Type} {L : List β} {X : β → Option α} {g : α → List PD} {rw : Rw β} {iv : Int} (hl : ρ[l]? = some (.lst sz (L.map rw.en))) (hi : i.ev ρ = some iv) (hk : rw.ks = ks) (h : ∀ b, Sy.den F K k Js (ρ ++ rw.en b) = (X b).map g) : Sy.den F K (.get l i ks k) Js ρ = ((L[iv.toNat]?).bind X).map g := by
  rw [Sy.den, hl]
  simp only [hi, Option.bind_some, List.getElem?_map]
  cases L[iv.toNat]? with
  | none => rfl
  | some b => subst hk; simp only [Option.map_some, Option.bind_some, rw.hok, if_true]; exact h b
theorem den_fix {F : FnE} {K sz : Nat} {L : LE} {k : Tree} {Js : List (List PD → Option (List PD))} {ρ : List PD} {α : Type} {rows : List (List PD)} {X : Option α} {g : α → List PD} (hL : LE.rows ρ L = some rows) (h : Sy.den F K k Js (ρ ++ [.lst sz rows]) = X.map g) : Sy.den F K (.fix L sz k) Js ρ = X.map g := by
  rw [Sy.den, hL]; exact h
theorem den_loop {F : FnE} {K : Nat} {args : List PC} {ks : List K4} {body : Tree} {Js : List (List PD → Option (List PD))} {ρ vs : List PD} {α : Type} {X : Option α} {g : α → List PD} (hp : pds ρ args = some vs) (h : iterF (fun J ρ' => Sy.den F K body (J :: Js) ρ') K (ρ ++ vs) = X.map g) : Sy.den F K (.loop args ks body) Js ρ = X.map g := by
  rw [Sy.den, hp]; exact h
theorem den_back {F : FnE} {K d p0 : Nat} {args : List PC} {Js : List (List PD → Option (List PD))} {ρ vs : List PD} {α : Type} {X : Option α} {g : α → List PD} {J : List PD → Option (List PD)} (hp : pds ρ args = some vs) (hJ : Js[d]? = some J) (h : J (ρ.take p0 ++ vs) = X.map g) : Sy.den F K (.back d p0 args) Js ρ = X.map g := by
  rw [Sy.den, hp, Option.bind_some, hJ]; exact h
theorem dens_ite {F : FnE} {c : B} {x y : Tree} {sup : List Ov} {ρ : List PD} {b : Bool} {α : Type} {X Y : Option α} {g : α → List PD} (hc : c.ev ρ = some b) (hx : Sy.denS F x ρ sup = X.map g) (hy : Sy.denS F y ρ sup = Y.map g) : Sy.denS F (.ite c x y) ρ sup = (if b = true then X else Y).map g := by
  rw [Sy.denS, hc, Option.bind_some]; cases b
  · exact hy
  · exact hx
theorem dens_ask {F : FnE} {f : Nat} {args : List PC} {ks : List K4} {k : Tree} {sup : List Ov} {ρ ps : List PD} {α β : Type} {G : Option β} {X : β → Option α} {g : α → List PD} {rr : Rw β} (ha : F f ps = G.map rr.en) (hp : pds ρ args = some ps) (hk : rr.ks = ks) (h : ∀ b, Sy.denS F k (ρ ++ rr.en b) sup = (X b).map g) : Sy.denS F (.ask f args ks k) ρ sup = (G.bind X).map g := by
  rw [Sy.denS, hp, Option.bind_some, ha]
  cases G with
  | none => rfl
  | some b => subst hk; simp only [Option.map_some, Option.bind_some, rr.hok, if_true]; exact h b
theorem dens_get {F : FnE} {l sz : Nat} {i : E} {ks : List K4} {k : Tree} {sup : List Ov} {ρ : List PD} {α β : Type} {L : List β} {X : β → Option α} {g : α → List PD} {rw : Rw β} {iv : Int} (hl : ρ[l]? = some (.lst sz (L.map rw.en))) (hi : i.ev ρ = some iv) (hk : rw.ks = ks) (h : ∀ b, Sy.denS F k (ρ ++ rw.en b) sup = (X b).map g) : Sy.denS F (.get l i ks k) ρ sup = ((L[iv.toNat]?).bind X).map g := by
  rw [Sy.denS, hl]
  simp only [hi, Option.bind_some, List.getElem?_map]
  cases L[iv.toNat]? with
  | none => rfl
  | some b => subst hk; simp only [Option.map_some, Option.bind_some, rw.hok, if_true]; exact h b
theorem dens_fix {F : FnE} {sz : Nat} {L : LE} {k : Tree} {sup : List Ov} {ρ : List PD} {α : Type} {rows : List (List PD)} {X : Option α} {g : α → List PD} (hL : LE.rows ρ L = some rows) (h : Sy.denS F k (ρ ++ [.lst sz rows]) sup = X.map g) : Sy.denS F (.fix L sz k) ρ sup = X.map g := by
  rw [Sy.denS, hL]; exact h
theorem dens_cst {F : FnE} {n : Nat} {k : Tree} {sup l rest : List Ov} {ρ : List PD} {α : Type} {X : Option α} {g : α → List PD} (hs : sup = l ++ rest) (hl : l.length = n) (h : Sy.denS F k (ρ ++ ovs l) rest = X.map g) : Sy.denS F (.cst n k) ρ sup = X.map g := by
  subst hs hl
  rw [Sy.denS, if_pos (by rw [List.length_append]; omega), List.take_left, List.drop_left]; exact h
theorem dens_ret {F : FnE} {l : List PC} {sup : List Ov} {ρ : List PD} {α : Type} {X : Option α} {g : α → List PD} (hp : pds ρ l = X.map g) : Sy.denS F (.ret l) ρ sup = X.map g := hp
theorem dens_bad (F : FnE) (ρ : List PD) (sup : List Ov) {α : Type} (g : α → List PD) : Sy.denS F .bad ρ sup = (none : Option α).map g := rfl
theorem den_ret {F : FnE} {K : Nat} {l : List PC} {Js : List (List PD → Option (List PD))} {ρ : List PD} {α : Type} {X : Option α} {g : α → List PD} (hp : pds ρ l = X.map g) : Sy.den F K (.ret l) Js ρ = X.map g := hp
theorem den_bad (F : FnE) (K : Nat) (Js : List (List PD → Option (List PD))) (ρ : List PD) {α : Type} (g : α → List PD) : Sy.den F K .bad Js ρ = (none : Option α).map g := rfl
/-! ### gatherumref03_Do: function 70 -/
noncomputable def gatherumref03_Do.body : Code := Try.f70.body.getD .skip
noncomputable def gatherumref03_Do.sg : List S1 := [(.agg [.i, .i, .i, .i]), (.one .i), (.one .i)]
noncomputable def gatherumref03_Do.sh : Sh := (.tup [(.one .i), (.one .i)])
noncomputable def gatherumref03_Do.cf : Cfg := ⟨env, Try.f70.ntmps, Try.f70.results.toList, some gatherumref03_Do.sh, rel, [], [], noExt⟩
noncomputable def gatherumref03_Do.t : Tree := (.ret [(.ex (.add (.mul (.va 0) (.va 4)) (.mul (.va 2) (.va 5)))), (.ex (.add (.mul (.va 1) (.va 4)) (.mul (.va 3) (.va 5))))])
noncomputable def gatherumref03_Do.ra : Rw (Int × Int × Int × Int × Int × Int) := (rwP rwI (rwP rwI (rwP rwI (rwP rwI (rwP rwI rwI)))))
noncomputable def gatherumref03_Do.rr : Rw (Int × Int) := (rwP rwI rwI)
theorem gatherumref03_Do.rr_en (r : Int × Int) : gatherumref03_Do.rr.en r = [.int r.1, .int r.2] := rfl
noncomputable def gatherumref03_Do.f (a0_0 : Int) (a0_1 : Int) (a0_2 : Int) (a0_3 : Int) (a1 : Int) (a2 : Int) : Option (Int × Int) := some ((wrap64 ((wrap64 (a0_0 * a1)) + (wrap64 (a0_2 * a2)))), (wrap64 ((wrap64 (a0_1 * a1)) + (wrap64 (a0_3 * a2)))))
noncomputable def gatherumref03_Do.app : App := fun ps => (gatherumref03_Do.ra.de ps).bind fun x => (gatherumref03_Do.f x.1 x.2.1 x.2.2.1 x.2.2.2.1 x.2.2.2.2.1 x.2.2.2.2.2).map gatherumref03_Do.rr.en
theorem gatherumref03_Do.ap (a0_0 : Int) (a0_1 : Int) (a0_2 : Int) (a0_3 : Int) (a1 : Int) (a2 : Int) : gatherumref03_Do.app [.int a0_0, .int a0_1, .int a0_2, .int a0_3, .int a1, .int a2] = (gatherumref03_Do.f a0_0 a0_1 a0_2 a0_3 a1 a2).map gatherumref03_Do.rr.en := app_ap gatherumref03_Do.ra gatherumref03_Do.rr (fun x => gatherumref03_Do.f x.1 x.2.1 x.2.2.1 x.2.2.2.1 x.2.2.2.2.1 x.2.2.2.2.2) (a0_0, a0_1, a0_2, a0_3, a1, a2)
theorem gatherumref03_Do.is : FnIs Try.prog 70 (.init gatherumref03_Do.sg) gatherumref03_Do.t gatherumref03_Do.cf := ⟨Try.f70, gatherumref03_Do.body, 6000, Try.func70, by kernel_rfl, rfl, rfl, by decide +kernel, by kernel_rfl⟩
theorem gatherumref03_Do.den (F : FnE) (K : Nat) (a0_0 : Int) (a0_1 : Int) (a0_2 : Int) (a0_3 : Int) (a1 : Int) (a2 : Int) : Sy.den F K gatherumref03_Do.t [] [.int a0_0, .int a0_1, .int a0_2, .int a0_3, .int a1, .int a2] = (gatherumref03_Do.f a0_0 a0_1 a0_2 a0_3 a1 a2).map gatherumref03_Do.rr.en := by
  unfold gatherumref03_Do.t gatherumref03_Do.f
  exact den_ret rfl
theorem gatherumref03_Do.ok (F : FnE) (K : Nat) (ps r : List PD) (h : gatherumref03_Do.app ps = some r) : Sy.den F K gatherumref03_Do.t [] ps = some r := by
  obtain ⟨a, rfl, h2⟩ := app_ok (ra := gatherumref03_Do.ra) (rr := gatherumref03_Do.rr) (f := fun x => gatherumref03_Do.f x.1 x.2.1 x.2.2.1 x.2.2.2.1 x.2.2.2.2.1 x.2.2.2.2.2) h
  rw [← h2]
  exact gatherumref03_Do.den F K (a.1) (a.2.1) (a.2.2.1) (a.2.2.2.1) (a.2.2.2.2.1) (a.2.2.2.2.2)
noncomputable def l70 (K : Nat) : List (Nat × App) := (70, gatherumref03_Do.app) :: l0 K
theorem gd70 (K : Nat) : Sy.Good Try.prog fns (mkF (l70 K)) := good_cons (K := K) gatherumref03_Do.is rfl (by kernel_rfl) (by decide +kernel) envOk relOk relNp mix (gd0 K) noExt_ok (gatherumref03_Do.ok _ K)
/-! ### gatherumref03_Of: function 71 -/
noncomputable def gatherumref03_Of.body : Code := Try.f71.body.getD .skip
noncomputable def gatherumref03_Of.sg : List S1 := [(.one .i)]
noncomputable def gatherumref03_Of.sh : Sh := (.one (.agg [.i, .i, .i, .i]))
noncomputable def gatherumref03_Of.cf : Cfg := ⟨env, Try.f71.ntmps, Try.f71.results.toList, some gatherumref03_Of.sh, rel, [6], [((6, 770, 1), ⟨[], [], [(4, [(0, .i)])], [(130, [(0, .i), (1, .i), (2, .i), (3, .i)])]⟩), ((6, 642, 1), ⟨[], [], [(4, [(0, .i)])], [(130, [(0, .i), (1, .i), (2, .i), (3, .i)])]⟩)], noExt⟩
noncomputable def gatherumref03_Of.b1 : Tree := (.ite (.lt (.va 1) (.rem (.and (.va 0) (.nu 7)) (.nu 4))) (.back 0 1 [(.ex (.add (.va 1) (.nu 1))), (.ex (.sub (.nu 0) (.va 3))), (.ex (.va 2)), (.ex (.sub (.nu 0) (.va 5))), (.ex (.va 4))]) (.ret [(.ex (.va 2)), (.ex (.va 3)), (.ex (.va 4)), (.ex (.va 5))]))
noncomputable def gatherumref03_Of.b0 : Tree := (.ite (.lt (.va 1) (.rem (.and (.va 0) (.nu 7)) (.nu 4))) (.back 0 1 [(.ex (.add (.va 1) (.nu 1))), (.ex (.sub (.nu 0) (.va 3))), (.ex (.va 2)), (.ex (.sub (.nu 0) (.va 5))), (.ex (.va 4))]) (.ret [(.ex (.va 2)), (.ex (.va 3)), (.ex (.va 4)), (.ex (.va 5))]))
noncomputable def gatherumref03_Of.t : Tree := (.ite (.le (.nu 4) (.and (.va 0) (.nu 7))) (.loop [(.ex (.nu 0)), (.ex (.nu (-1))), (.ex (.nu 0)), (.ex (.nu 0)), (.ex (.nu 1))] [.i, .i, .i, .i, .i] gatherumref03_Of.b0) (.loop [(.ex (.nu 0)), (.ex (.nu 1)), (.ex (.nu 0)), (.ex (.nu 0)), (.ex (.nu 1))] [.i, .i, .i, .i, .i] gatherumref03_Of.b1))
noncomputable def gatherumref03_Of.ra : Rw (Int) := rwI
noncomputable def gatherumref03_Of.rr : Rw (Int × Int × Int × Int) := (rwP rwI (rwP rwI (rwP rwI rwI)))
theorem gatherumref03_Of.rr_en (r : Int × Int × Int × Int) : gatherumref03_Of.rr.en r = [.int r.1, .int r.2.1, .int r.2.2.1, .int r.2.2.2] := rfl
noncomputable def gatherumref03_Of.l1 (p0 : Int) : Nat → (Int) → (Int) → (Int) → (Int) → (Int) → Option (Int × Int × Int × Int)
  | 0, _, _, _, _, _ => none
  | k + 1, x0, x1, x2, x3, x4 => (if (decide (x0 < (Int.tmod (Go.bits .and .i64 p0 7) 4))) = true then (gatherumref03_Of.l1 p0 k (wrap64 (x0 + 1)) (wrap64 (0 - x2)) x1 (wrap64 (0 - x4)) x3) else some (x1, x2, x3, x4))
noncomputable def gatherumref03_Of.l0 (p0 : Int) : Nat → (Int) → (Int) → (Int) → (Int) → (Int) → Option (Int × Int × Int × Int)
  | 0, _, _, _, _, _ => none
  | k + 1, x0, x1, x2, x3, x4 => (if (decide (x0 < (Int.tmod (Go.bits .and .i64 p0 7) 4))) = true then (gatherumref03_Of.l0 p0 k (wrap64 (x0 + 1)) (wrap64 (0 - x2)) x1 (wrap64 (0 - x4)) x3) else some (x1, x2, x3, x4))
noncomputable def gatherumref03_Of.f (K : Nat) (a0 : Int) : Option (Int × Int × Int × Int) := (if (decide (4 ≤ (Go.bits .and .i64 a0 7))) = true then (gatherumref03_Of.l0 a0 K 0 (-1) 0 0 1) else (gatherumref03_Of.l1 a0 K 0 1 0 0 1))
noncomputable def gatherumref03_Of.app (K : Nat) : App := fun ps => (gatherumref03_Of.ra.de ps).bind fun x => (gatherumref03_Of.f K x).map gatherumref03_Of.rr.en
theorem gatherumref03_Of.ap (K : Nat) (a0 : Int) : gatherumref03_Of.app K [.int a0] = (gatherumref03_Of.f K a0).map gatherumref03_Of.rr.en := app_ap gatherumref03_Of.ra gatherumref03_Of.rr (fun x => gatherumref03_Of.f K x) (a0)
theorem gatherumref03_Of.is : FnIs Try.prog 71 (.init gatherumref03_Of.sg) gatherumref03_Of.t gatherumref03_Of.cf := ⟨Try.f71, gatherumref03_Of.body, 6000, Try.func71, by kernel_rfl, rfl, rfl, by decide +kernel, by kernel_rfl⟩
theorem gatherumref03_Of.l1_den (F : FnE) (K : Nat) (Js : List (List PD → Option (List PD))) (p0 : Int) : ∀ (k : Nat) (x0 : Int) (x1 : Int) (x2 : Int) (x3 : Int) (x4 : Int), iterF (fun J ρ' => den F K gatherumref03_Of.b1 (J :: Js) ρ') k [.int p0, .int x0, .int x1, .int x2, .int x3, .int x4] = (gatherumref03_Of.l1 p0 k x0 x1 x2 x3 x4).map gatherumref03_Of.rr.en := by
  intro k
  induction k with
  | zero => intros; rfl
  | succ k ih =>
    intro x0 x1 x2 x3 x4
    show Sy.den F K gatherumref03_Of.b1 (iterF (fun J ρ' => Sy.den F K gatherumref03_Of.b1 (J :: Js) ρ') k :: Js) [.int p0, .int x0, .int x1, .int x2, .int x3, .int x4] = _
    revert ih
    generalize iterF (fun J ρ' => Sy.den F K gatherumref03_Of.b1 (J :: Js) ρ') k = J1
    intro ih
    rw [gatherumref03_Of.l1]
    show Sy.den F K gatherumref03_Of.b1 _ [.int p0, .int x0, .int x1, .int x2, .int x3, .int x4] = _
    unfold gatherumref03_Of.b1
    refine den_ite (b := (decide (x0 < (Int.tmod (Go.bits .and .i64 p0 7) 4)))) rfl ?_ ?_
    refine den_back (vs := [.int (wrap64 (x0 + 1)), .int (wrap64 (0 - x2)), .int x1, .int (wrap64 (0 - x4)), .int x3]) rfl rfl ?_
    exact ih (wrap64 (x0 + 1)) (wrap64 (0 - x2)) x1 (wrap64 (0 - x4)) x3
    exact den_ret rfl
theorem gatherumref03_Of.l0_den (F : FnE) (K : Nat) (Js : List (List PD → Option (List PD))) (p0 : Int) : ∀ (k : Nat) (x0 : Int) (x1 : Int) (x2 : Int) (x3 : Int) (x4 : Int), iterF (fun J ρ' => den F K gatherumref03_Of.b0 (J :: Js) ρ') k [.int p0, .int x0, .int x1, .int x2, .int x3, .int x4] = (gatherumref03_Of.l0 p0 k x0 x1 x2 x3 x4).map gatherumref03_Of.rr.en := by
  intro k
  induction k with
  | zero => intros; rfl
  | succ k ih =>
    intro x0 x1 x2 x3 x4
    show Sy.den F K gatherumref03_Of.b0 (iterF (fun J ρ' => Sy.den F K gatherumref03_Of.b0 (J :: Js) ρ') k :: Js) [.int p0, .int x0, .int x1, .int x2, .int x3, .int x4] = _
    revert ih
    generalize iterF (fun J ρ' => Sy.den F K gatherumref03_Of.b0 (J :: Js) ρ') k = J0
    intro ih
    rw [gatherumref03_Of.l0]
    show Sy.den F K gatherumref03_Of.b0 _ [.int p0, .int x0, .int x1, .int x2, .int x3, .int x4] = _
    unfold gatherumref03_Of.b0
    refine den_ite (b := (decide (x0 < (Int.tmod (Go.bits .and .i64 p0 7) 4)))) rfl ?_ ?_
    refine den_back (vs := [.int (wrap64 (x0 + 1)), .int (wrap64 (0 - x2)), .int x1, .int (wrap64 (0 - x4)), .int x3]) rfl rfl ?_
    exact ih (wrap64 (x0 + 1)) (wrap64 (0 - x2)) x1 (wrap64 (0 - x4)) x3
    exact den_ret rfl
theorem gatherumref03_Of.den (F : FnE) (K : Nat) (a0 : Int) : Sy.den F K gatherumref03_Of.t [] [.int a0] = (gatherumref03_Of.f K a0).map gatherumref03_Of.rr.en := by
  unfold gatherumref03_Of.t gatherumref03_Of.f
  refine den_ite (b := (decide (4 ≤ (Go.bits .and .i64 a0 7)))) rfl ?_ ?_
  refine den_loop (vs := [.int 0, .int (-1), .int 0, .int 0, .int 1]) rfl ?_
  exact gatherumref03_Of.l0_den F K [] a0 K 0 (-1) 0 0 1
  refine den_loop (vs := [.int 0, .int 1, .int 0, .int 0, .int 1]) rfl ?_
  exact gatherumref03_Of.l1_den F K [] a0 K 0 1 0 0 1
theorem gatherumref03_Of.ok (F : FnE) (K : Nat) (ps r : List PD) (h : gatherumref03_Of.app K ps = some r) : Sy.den F K gatherumref03_Of.t [] ps = some r := by
  obtain ⟨a, rfl, h2⟩ := app_ok (ra := gatherumref03_Of.ra) (rr := gatherumref03_Of.rr) (f := fun x => gatherumref03_Of.f K x) h
  rw [← h2]
  exact gatherumref03_Of.den F K a
noncomputable def l71 (K : Nat) : List (Nat × App) := (71, gatherumref03_Of.app K) :: l70 K
theorem gd71 (K : Nat) : Sy.Good Try.prog fns (mkF (l71 K)) := good_cons (K := K) gatherumref03_Of.is rfl (by kernel_rfl) (by decide +kernel) envOk relOk relNp mix (gd70 K) noExt_ok (gatherumref03_Of.ok _ K)
/-! ### gatherumref04_Do: function 17 -/
noncomputable def gatherumref04_Do.body : Code := Try.f17.body.getD .skip
noncomputable def gatherumref04_Do.sg : List S1 := [(.agg [.i, .i, .i]), (.agg [.i, .i])]
noncomputable def gatherumref04_Do.sh : Sh := (.one (.agg [.i, .i]))
noncomputable def gatherumref04_Do.cf : Cfg := ⟨env, Try.f17.ntmps, Try.f17.results.toList, some gatherumref04_Do.sh, rel, [], [], noExt⟩
noncomputable def gatherumref04_Do.t : Tree := (.ask 71 [(.ex (.va 0))] [.i, .i, .i, .i] (.ask 70 [(.ex (.va 5)), (.ex (.va 6)), (.ex (.va 7)), (.ex (.va 8)), (.ex (.va 3)), (.ex (.va 4))] [.i, .i] (.ret [(.ex (.add (.va 9) (.va 1))), (.ex (.add (.va 10) (.va 2)))])))
noncomputable def gatherumref04_Do.ra : Rw (Int × Int × Int × Int × Int) := (rwP rwI (rwP rwI (rwP rwI (rwP rwI rwI))))
noncomputable def gatherumref04_Do.rr : Rw (Int × Int) := (rwP rwI rwI)
theorem gatherumref04_Do.rr_en (r : Int × Int) : gatherumref04_Do.rr.en r = [.int r.1, .int r.2] := rfl
noncomputable def gatherumref04_Do.f (K : Nat) (a0_0 : Int) (a0_1 : Int) (a0_2 : Int) (a1_0 : Int) (a1_1 : Int) : Option (Int × Int) := ((gatherumref03_Of.f K a0_0).bind fun b0 => ((gatherumref03_Do.f b0.1 b0.2.1 b0.2.2.1 b0.2.2.2 a1_0 a1_1).bind fun b1 => some ((wrap64 (b1.1 + a0_1)), (wrap64 (b1.2 + a0_2)))))
noncomputable def gatherumref04_Do.app (K : Nat) : App := fun ps => (gatherumref04_Do.ra.de ps).bind fun x => (gatherumref04_Do.f K x.1 x.2.1 x.2.2.1 x.2.2.2.1 x.2.2.2.2).map gatherumref04_Do.rr.en
theorem gatherumref04_Do.ap (K : Nat) (a0_0 : Int) (a0_1 : Int) (a0_2 : Int) (a1_0 : Int) (a1_1 : Int) : gatherumref04_Do.app K [.int a0_0, .int a0_1, .int a0_2, .int a1_0, .int a1_1] = (gatherumref04_Do.f K a0_0 a0_1 a0_2 a1_0 a1_1).map gatherumref04_Do.rr.en := app_ap gatherumref04_Do.ra gatherumref04_Do.rr (fun x => gatherumref04_Do.f K x.1 x.2.1 x.2.2.1 x.2.2.2.1 x.2.2.2.2) (a0_0, a0_1, a0_2, a1_0, a1_1)
theorem gatherumref04_Do.is : FnIs Try.prog 17 (.init gatherumref04_Do.sg) gatherumref04_Do.t gatherumref04_Do.cf := ⟨Try.f17, gatherumref04_Do.body, 6000, Try.func17, by kernel_rfl, rfl, rfl, by decide +kernel, by kernel_rfl⟩
theorem gatherumref04_Do.den (F : FnE) (K : Nat) (h70 : F 70 = gatherumref03_Do.app) (h71 : F 71 = gatherumref03_Of.app K) (a0_0 : Int) (a0_1 : Int) (a0_2 : Int) (a1_0 : Int) (a1_1 : Int) : Sy.den F K gatherumref04_Do.t [] [.int a0_0, .int a0_1, .int a0_2, .int a1_0, .int a1_1] = (gatherumref04_Do.f K a0_0 a0_1 a0_2 a1_0 a1_1).map gatherumref04_Do.rr.en := by
  unfold gatherumref04_Do.t gatherumref04_Do.f
  refine den_ask (ps := [.int a0_0]) (rr := gatherumref03_Of.rr) (G := gatherumref03_Of.f K a0_0) (by rw [h71]; exact gatherumref03_Of.ap K a0_0) rfl rfl fun b0 => ?_
  show Sy.den F K _ _ [.int a0_0, .int a0_1, .int a0_2, .int a1_0, .int a1_1, .int b0.1, .int b0.2.1, .int b0.2.2.1, .int b0.2.2.2] = _
  refine den_ask (ps := [.int b0.1, .int b0.2.1, .int b0.2.2.1, .int b0.2.2.2, .int a1_0, .int a1_1]) (rr := gatherumref03_Do.rr) (G := gatherumref03_Do.f b0.1 b0.2.1 b0.2.2.1 b0.2.2.2 a1_0 a1_1) (by rw [h70]; exact gatherumref03_Do.ap b0.1 b0.2.1 b0.2.2.1 b0.2.2.2 a1_0 a1_1) rfl rfl fun b1 => ?_
  show Sy.den F K _ _ [.int a0_0, .int a0_1, .int a0_2, .int a1_0, .int a1_1, .int b0.1, .int b0.2.1, .int b0.2.2.1, .int b0.2.2.2, .int b1.1, .int b1.2] = _
  exact den_ret rfl
theorem gatherumref04_Do.ok (F : FnE) (K : Nat) (h70 : F 70 = gatherumref03_Do.app) (h71 : F 71 = gatherumref03_Of.app K) (ps r : List PD) (h : gatherumref04_Do.app K ps = some r) : Sy.den F K gatherumref04_Do.t [] ps = some r := by
  obtain ⟨a, rfl, h2⟩ := app_ok (ra := gatherumref04_Do.ra) (rr := gatherumref04_Do.rr) (f := fun x => gatherumref04_Do.f K x.1 x.2.1 x.2.2.1 x.2.2.2.1 x.2.2.2.2) h
  rw [← h2]
  exact gatherumref04_Do.den F K h70 h71 (a.1) (a.2.1) (a.2.2.1) (a.2.2.2.1) (a.2.2.2.2)
noncomputable def l17 (K : Nat) : List (Nat × App) := (17, gatherumref04_Do.app K) :: l71 K
theorem gd17 (K : Nat) : Sy.Good Try.prog fns (mkF (l17 K)) := good_cons (K := K) gatherumref04_Do.is rfl (by kernel_rfl) (by decide +kernel) envOk relOk relNp mix (gd71 K) noExt_ok (gatherumref04_Do.ok _ K rfl rfl)
/-! ### gatherumref04_low: function 72 -/
noncomputable def gatherumref04_low.body : Code := Try.f72.body.getD .skip
noncomputable def gatherumref04_low.sg : List S1 := [(.one .i), (.one .i)]
noncomputable def gatherumref04_low.sh : Sh := (.one (.one .i))
noncomputable def gatherumref04_low.cf : Cfg := ⟨env, Try.f72.ntmps, Try.f72.results.toList, some gatherumref04_low.sh, rel, [], [], noExt⟩
noncomputable def gatherumref04_low.t : Tree := (.ite (.lt (.va 0) (.va 1)) (.ret [(.ex (.va 0))]) (.ret [(.ex (.va 1))]))
noncomputable def gatherumref04_low.ra : Rw (Int × Int) := (rwP rwI rwI)
noncomputable def gatherumref04_low.rr : Rw (Int) := rwI
theorem gatherumref04_low.rr_en (r : Int) : gatherumref04_low.rr.en r = [.int r] := rfl
noncomputable def gatherumref04_low.f (a0 : Int) (a1 : Int) : Option (Int) := (if (decide (a0 < a1)) = true then some a0 else some a1)
noncomputable def gatherumref04_low.app : App := fun ps => (gatherumref04_low.ra.de ps).bind fun x => (gatherumref04_low.f x.1 x.2).map gatherumref04_low.rr.en
theorem gatherumref04_low.ap (a0 : Int) (a1 : Int) : gatherumref04_low.app [.int a0, .int a1] = (gatherumref04_low.f a0 a1).map gatherumref04_low.rr.en := app_ap gatherumref04_low.ra gatherumref04_low.rr (fun x => gatherumref04_low.f x.1 x.2) (a0, a1)
theorem gatherumref04_low.is : FnIs Try.prog 72 (.init gatherumref04_low.sg) gatherumref04_low.t gatherumref04_low.cf := ⟨Try.f72, gatherumref04_low.body, 6000, Try.func72, by kernel_rfl, rfl, rfl, by decide +kernel, by kernel_rfl⟩
theorem gatherumref04_low.den (F : FnE) (K : Nat) (a0 : Int) (a1 : Int) : Sy.den F K gatherumref04_low.t [] [.int a0, .int a1] = (gatherumref04_low.f a0 a1).map gatherumref04_low.rr.en := by
  unfold gatherumref04_low.t gatherumref04_low.f
  refine den_ite (b := (decide (a0 < a1))) rfl ?_ ?_
  exact den_ret rfl
  exact den_ret rfl
theorem gatherumref04_low.ok (F : FnE) (K : Nat) (ps r : List PD) (h : gatherumref04_low.app ps = some r) : Sy.den F K gatherumref04_low.t [] ps = some r := by
  obtain ⟨a, rfl, h2⟩ := app_ok (ra := gatherumref04_low.ra) (rr := gatherumref04_low.rr) (f := fun x => gatherumref04_low.f x.1 x.2) h
  rw [← h2]
  exact gatherumref04_low.den F K (a.1) (a.2)
noncomputable def l72 (K : Nat) : List (Nat × App) := (72, gatherumref04_low.app) :: l17 K
theorem gd72 (K : Nat) : Sy.Good Try.prog fns (mkF (l72 K)) := good_cons (K := K) gatherumref04_low.is rfl (by kernel_rfl) (by decide +kernel) envOk relOk relNp mix (gd17 K) noExt_ok (gatherumref04_low.ok _ K)
/-! ### gatherumref04_high: function 73 -/
noncomputable def gatherumref04_high.body : Code := Try.f73.body.getD .skip
noncomputable def gatherumref04_high.sg : List S1 := [(.one .i), (.one .i)]
noncomputable def gatherumref04_high.sh : Sh := (.one (.one .i))
noncomputable def gatherumref04_high.cf : Cfg := ⟨env, Try.f73.ntmps, Try.f73.results.toList, some gatherumref04_high.sh, rel, [], [], noExt⟩
noncomputable def gatherumref04_high.t : Tree := (.ite (.lt (.va 1) (.va 0)) (.ret [(.ex (.va 0))]) (.ret [(.ex (.va 1))]))
noncomputable def gatherumref04_high.ra : Rw (Int × Int) := (rwP rwI rwI)
noncomputable def gatherumref04_high.rr : Rw (Int) := rwI
theorem gatherumref04_high.rr_en (r : Int) : gatherumref04_high.rr.en r = [.int r] := rfl
noncomputable def gatherumref04_high.f (a0 : Int) (a1 : Int) : Option (Int) := (if (decide (a1 < a0)) = true then some a0 else some a1)
noncomputable def gatherumref04_high.app : App := fun ps => (gatherumref04_high.ra.de ps).bind fun x => (gatherumref04_high.f x.1 x.2).map gatherumref04_high.rr.en
theorem gatherumref04_high.ap (a0 : Int) (a1 : Int) : gatherumref04_high.app [.int a0, .int a1] = (gatherumref04_high.f a0 a1).map gatherumref04_high.rr.en := app_ap gatherumref04_high.ra gatherumref04_high.rr (fun x => gatherumref04_high.f x.1 x.2) (a0, a1)
theorem gatherumref04_high.is : FnIs Try.prog 73 (.init gatherumref04_high.sg) gatherumref04_high.t gatherumref04_high.cf := ⟨Try.f73, gatherumref04_high.body, 6000, Try.func73, by kernel_rfl, rfl, rfl, by decide +kernel, by kernel_rfl⟩
theorem gatherumref04_high.den (F : FnE) (K : Nat) (a0 : Int) (a1 : Int) : Sy.den F K gatherumref04_high.t [] [.int a0, .int a1] = (gatherumref04_high.f a0 a1).map gatherumref04_high.rr.en := by
  unfold gatherumref04_high.t gatherumref04_high.f
  refine den_ite (b := (decide (a1 < a0))) rfl ?_ ?_
  exact den_ret rfl
  exact den_ret rfl
theorem gatherumref04_high.ok (F : FnE) (K : Nat) (ps r : List PD) (h : gatherumref04_high.app ps = some r) : Sy.den F K gatherumref04_high.t [] ps = some r := by
  obtain ⟨a, rfl, h2⟩ := app_ok (ra := gatherumref04_high.ra) (rr := gatherumref04_high.rr) (f := fun x => gatherumref04_high.f x.1 x.2) h
  rw [← h2]
  exact gatherumref04_high.den F K (a.1) (a.2)
noncomputable def l73 (K : Nat) : List (Nat × App) := (73, gatherumref04_high.app) :: l72 K
theorem gd73 (K : Nat) : Sy.Good Try.prog fns (mkF (l73 K)) := good_cons (K := K) gatherumref04_high.is rfl (by kernel_rfl) (by decide +kernel) envOk relOk relNp mix (gd72 K) noExt_ok (gatherumref04_high.ok _ K)
/-! ### gatherumref04_Box: function 20 -/
noncomputable def gatherumref04_Box.body : Code := Try.f20.body.getD .skip
noncomputable def gatherumref04_Box.sg : List S1 := [(.agg [.i, .i, .i]), (.agg [.i, .i, .i, .i])]
noncomputable def gatherumref04_Box.sh : Sh := (.one (.agg [.i, .i, .i, .i]))
noncomputable def gatherumref04_Box.cf : Cfg := ⟨env, Try.f20.ntmps, Try.f20.results.toList, some gatherumref04_Box.sh, rel, [], [], noExt⟩
noncomputable def gatherumref04_Box.t : Tree := (.ask 17 [(.ex (.va 0)), (.ex (.va 1)), (.ex (.va 2)), (.ex (.va 3)), (.ex (.va 4))] [.i, .i] (.ask 17 [(.ex (.va 0)), (.ex (.va 1)), (.ex (.va 2)), (.ex (.va 5)), (.ex (.va 6))] [.i, .i] (.ask 72 [(.ex (.va 7)), (.ex (.va 9))] [.i] (.ask 72 [(.ex (.va 8)), (.ex (.va 10))] [.i] (.ask 73 [(.ex (.va 7)), (.ex (.va 9))] [.i] (.ask 73 [(.ex (.va 8)), (.ex (.va 10))] [.i] (.ret [(.ex (.va 11)), (.ex (.va 12)), (.ex (.va 13)), (.ex (.va 14))])))))))
noncomputable def gatherumref04_Box.ra : Rw (Int × Int × Int × Int × Int × Int × Int) := (rwP rwI (rwP rwI (rwP rwI (rwP rwI (rwP rwI (rwP rwI rwI))))))
noncomputable def gatherumref04_Box.rr : Rw (Int × Int × Int × Int) := (rwP rwI (rwP rwI (rwP rwI rwI)))
theorem gatherumref04_Box.rr_en (r : Int × Int × Int × Int) : gatherumref04_Box.rr.en r = [.int r.1, .int r.2.1, .int r.2.2.1, .int r.2.2.2] := rfl
noncomputable def gatherumref04_Box.f (K : Nat) (a0_0 : Int) (a0_1 : Int) (a0_2 : Int) (a1_0 : Int) (a1_1 : Int) (a1_2 : Int) (a1_3 : Int) : Option (Int × Int × Int × Int) := ((gatherumref04_Do.f K a0_0 a0_1 a0_2 a1_0 a1_1).bind fun b0 => ((gatherumref04_Do.f K a0_0 a0_1 a0_2 a1_2 a1_3).bind fun b1 => ((gatherumref04_low.f b0.1 b1.1).bind fun b2 => ((gatherumref04_low.f b0.2 b1.2).bind fun b3 => ((gatherumref04_high.f b0.1 b1.1).bind fun b4 => ((gatherumref04_high.f b0.2 b1.2).bind fun b5 => some (b2, b3, b4, b5)))))))
noncomputable def gatherumref04_Box.app (K : Nat) : App := fun ps => (gatherumref04_Box.ra.de ps).bind fun x => (gatherumref04_Box.f K x.1 x.2.1 x.2.2.1 x.2.2.2.1 x.2.2.2.2.1 x.2.2.2.2.2.1 x.2.2.2.2.2.2).map gatherumref04_Box.rr.en
theorem gatherumref04_Box.ap (K : Nat) (a0_0 : Int) (a0_1 : Int) (a0_2 : Int) (a1_0 : Int) (a1_1 : Int) (a1_2 : Int) (a1_3 : Int) : gatherumref04_Box.app K [.int a0_0, .int a0_1, .int a0_2, .int a1_0, .int a1_1, .int a1_2, .int a1_3] = (gatherumref04_Box.f K a0_0 a0_1 a0_2 a1_0 a1_1 a1_2 a1_3).map gatherumref04_Box.rr.en := app_ap gatherumref04_Box.ra gatherumref04_Box.rr (fun x => gatherumref04_Box.f K x.1 x.2.1 x.2.2.1 x.2.2.2.1 x.2.2.2.2.1 x.2.2.2.2.2.1 x.2.2.2.2.2.2) (a0_0, a0_1, a0_2, a1_0, a1_1, a1_2, a1_3)
theorem gatherumref04_Box.is : FnIs Try.prog 20 (.init gatherumref04_Box.sg) gatherumref04_Box.t gatherumref04_Box.cf := ⟨Try.f20, gatherumref04_Box.body, 6000, Try.func20, by kernel_rfl, rfl, rfl, by decide +kernel, by kernel_rfl⟩
theorem gatherumref04_Box.den (F : FnE) (K : Nat) (h17 : F 17 = gatherumref04_Do.app K) (h72 : F 72 = gatherumref04_low.app) (h73 : F 73 = gatherumref04_high.app) (a0_0 : Int) (a0_1 : Int) (a0_2 : Int) (a1_0 : Int) (a1_1 : Int) (a1_2 : Int) (a1_3 : Int) : Sy.den F K gatherumref04_Box.t [] [.int a0_0, .int a0_1, .int a0_2, .int a1_0, .int a1_1, .int a1_2, .int a1_3] = (gatherumref04_Box.f K a0_0 a0_1 a0_2 a1_0 a1_1 a1_2 a1_3).map gatherumref04_Box.rr.en := by
  unfold gatherumref04_Box.t gatherumref04_Box.f
  refine den_ask (ps := [.int a0_0, .int a0_1, .int a0_2, .int a1_0, .int a1_1]) (rr := gatherumref04_Do.rr) (G := gatherumref04_Do.f K a0_0 a0_1 a0_2 a1_0 a1_1) (by rw [h17]; exact gatherumref04_Do.ap K a0_0 a0_1 a0_2 a1_0 a1_1) rfl rfl fun b0 => ?_
  show Sy.den F K _ _ [.int a0_0, .int a0_1, .int a0_2, .int a1_0, .int a1_1, .int a1_2, .int a1_3, .int b0.1, .int b0.2] = _
  refine den_ask (ps := [.int a0_0, .int a0_1, .int a0_2, .int a1_2, .int a1_3]) (rr := gatherumref04_Do.rr) (G := gatherumref04_Do.f K a0_0 a0_1 a0_2 a1_2 a1_3) (by rw [h17]; exact gatherumref04_Do.ap K a0_0 a0_1 a0_2 a1_2 a1_3) rfl rfl fun b1 => ?_
  show Sy.den F K _ _ [.int a0_0, .int a0_1, .int a0_2, .int a1_0, .int a1_1, .int a1_2, .int a1_3, .int b0.1, .int b0.2, .int b1.1, .int b1.2] = _
  refine den_ask (ps := [.int b0.1, .int b1.1]) (rr := gatherumref04_low.rr) (G := gatherumref04_low.f b0.1 b1.1) (by rw [h72]; exact gatherumref04_low.ap b0.1 b1.1) rfl rfl fun b2 => ?_
  show Sy.den F K _ _ [.int a0_0, .int a0_1, .int a0_2, .int a1_0, .int a1_1, .int a1_2, .int a1_3, .int b0.1, .int b0.2, .int b1.1, .int b1.2, .int b2] = _
  refine den_ask (ps := [.int b0.2, .int b1.2]) (rr := gatherumref04_low.rr) (G := gatherumref04_low.f b0.2 b1.2) (by rw [h72]; exact gatherumref04_low.ap b0.2 b1.2) rfl rfl fun b3 => ?_
  show Sy.den F K _ _ [.int a0_0, .int a0_1, .int a0_2, .int a1_0, .int a1_1, .int a1_2, .int a1_3, .int b0.1, .int b0.2, .int b1.1, .int b1.2, .int b2, .int b3] = _
  refine den_ask (ps := [.int b0.1, .int b1.1]) (rr := gatherumref04_high.rr) (G := gatherumref04_high.f b0.1 b1.1) (by rw [h73]; exact gatherumref04_high.ap b0.1 b1.1) rfl rfl fun b4 => ?_
  show Sy.den F K _ _ [.int a0_0, .int a0_1, .int a0_2, .int a1_0, .int a1_1, .int a1_2, .int a1_3, .int b0.1, .int b0.2, .int b1.1, .int b1.2, .int b2, .int b3, .int b4] = _
  refine den_ask (ps := [.int b0.2, .int b1.2]) (rr := gatherumref04_high.rr) (G := gatherumref04_high.f b0.2 b1.2) (by rw [h73]; exact gatherumref04_high.ap b0.2 b1.2) rfl rfl fun b5 => ?_
  show Sy.den F K _ _ [.int a0_0, .int a0_1, .int a0_2, .int a1_0, .int a1_1, .int a1_2, .int a1_3, .int b0.1, .int b0.2, .int b1.1, .int b1.2, .int b2, .int b3, .int b4, .int b5] = _
  exact den_ret rfl
theorem gatherumref04_Box.ok (F : FnE) (K : Nat) (h17 : F 17 = gatherumref04_Do.app K) (h72 : F 72 = gatherumref04_low.app) (h73 : F 73 = gatherumref04_high.app) (ps r : List PD) (h : gatherumref04_Box.app K ps = some r) : Sy.den F K gatherumref04_Box.t [] ps = some r := by
  obtain ⟨a, rfl, h2⟩ := app_ok (ra := gatherumref04_Box.ra) (rr := gatherumref04_Box.rr) (f := fun x => gatherumref04_Box.f K x.1 x.2.1 x.2.2.1 x.2.2.2.1 x.2.2.2.2.1 x.2.2.2.2.2.1 x.2.2.2.2.2.2) h
  rw [← h2]
  exact gatherumref04_Box.den F K h17 h72 h73 (a.1) (a.2.1) (a.2.2.1) (a.2.2.2.1) (a.2.2.2.2.1) (a.2.2.2.2.2.1) (a.2.2.2.2.2.2)
noncomputable def l20 (K : Nat) : List (Nat × App) := (20, gatherumref04_Box.app K) :: l73 K
theorem gd20 (K : Nat) : Sy.Good Try.prog fns (mkF (l20 K)) := good_cons (K := K) gatherumref04_Box.is rfl (by kernel_rfl) (by decide +kernel) envOk relOk relNp mix (gd73 K) noExt_ok (gatherumref04_Box.ok _ K rfl rfl rfl)
/-! ### gatherumref03_Then: function 82 -/
noncomputable def gatherumref03_Then.body : Code := Try.f82.body.getD .skip
noncomputable def gatherumref03_Then.sg : List S1 := [(.agg [.i, .i, .i, .i]), (.agg [.i, .i, .i, .i])]
noncomputable def gatherumref03_Then.sh : Sh := (.one (.agg [.i, .i, .i, .i]))
noncomputable def gatherumref03_Then.cf : Cfg := ⟨env, Try.f82.ntmps, Try.f82.results.toList, some gatherumref03_Then.sh, rel, [], [], noExt⟩
noncomputable def gatherumref03_Then.t : Tree := (.ask 70 [(.ex (.va 4)), (.ex (.va 5)), (.ex (.va 6)), (.ex (.va 7)), (.ex (.va 0)), (.ex (.va 1))] [.i, .i] (.ask 70 [(.ex (.va 4)), (.ex (.va 5)), (.ex (.va 6)), (.ex (.va 7)), (.ex (.va 2)), (.ex (.va 3))] [.i, .i] (.ret [(.ex (.va 8)), (.ex (.va 9)), (.ex (.va 10)), (.ex (.va 11))])))
noncomputable def gatherumref03_Then.ra : Rw (Int × Int × Int × Int × Int × Int × Int × Int) := (rwP rwI (rwP rwI (rwP rwI (rwP rwI (rwP rwI (rwP rwI (rwP rwI rwI)))))))
noncomputable def gatherumref03_Then.rr : Rw (Int × Int × Int × Int) := (rwP rwI (rwP rwI (rwP rwI rwI)))
theorem gatherumref03_Then.rr_en (r : Int × Int × Int × Int) : gatherumref03_Then.rr.en r = [.int r.1, .int r.2.1, .int r.2.2.1, .int r.2.2.2] := rfl
noncomputable def gatherumref03_Then.f (a0_0 : Int) (a0_1 : Int) (a0_2 : Int) (a0_3 : Int) (a1_0 : Int) (a1_1 : Int) (a1_2 : Int) (a1_3 : Int) : Option (Int × Int × Int × Int) := ((gatherumref03_Do.f a1_0 a1_1 a1_2 a1_3 a0_0 a0_1).bind fun b0 => ((gatherumref03_Do.f a1_0 a1_1 a1_2 a1_3 a0_2 a0_3).bind fun b1 => some (b0.1, b0.2, b1.1, b1.2)))
noncomputable def gatherumref03_Then.app : App := fun ps => (gatherumref03_Then.ra.de ps).bind fun x => (gatherumref03_Then.f x.1 x.2.1 x.2.2.1 x.2.2.2.1 x.2.2.2.2.1 x.2.2.2.2.2.1 x.2.2.2.2.2.2.1 x.2.2.2.2.2.2.2).map gatherumref03_Then.rr.en
theorem gatherumref03_Then.ap (a0_0 : Int) (a0_1 : Int) (a0_2 : Int) (a0_3 : Int) (a1_0 : Int) (a1_1 : Int) (a1_2 : Int) (a1_3 : Int) : gatherumref03_Then.app [.int a0_0, .int a0_1, .int a0_2, .int a0_3, .int a1_0, .int a1_1, .int a1_2, .int a1_3] = (gatherumref03_Then.f a0_0 a0_1 a0_2 a0_3 a1_0 a1_1 a1_2 a1_3).map gatherumref03_Then.rr.en := app_ap gatherumref03_Then.ra gatherumref03_Then.rr (fun x => gatherumref03_Then.f x.1 x.2.1 x.2.2.1 x.2.2.2.1 x.2.2.2.2.1 x.2.2.2.2.2.1 x.2.2.2.2.2.2.1 x.2.2.2.2.2.2.2) (a0_0, a0_1, a0_2, a0_3, a1_0, a1_1, a1_2, a1_3)
theorem gatherumref03_Then.is : FnIs Try.prog 82 (.init gatherumref03_Then.sg) gatherumref03_Then.t gatherumref03_Then.cf := ⟨Try.f82, gatherumref03_Then.body, 6000, Try.func82, by kernel_rfl, rfl, rfl, by decide +kernel, by kernel_rfl⟩
theorem gatherumref03_Then.den (F : FnE) (K : Nat) (h70 : F 70 = gatherumref03_Do.app) (a0_0 : Int) (a0_1 : Int) (a0_2 : Int) (a0_3 : Int) (a1_0 : Int) (a1_1 : Int) (a1_2 : Int) (a1_3 : Int) : Sy.den F K gatherumref03_Then.t [] [.int a0_0, .int a0_1, .int a0_2, .int a0_3, .int a1_0, .int a1_1, .int a1_2, .int a1_3] = (gatherumref03_Then.f a0_0 a0_1 a0_2 a0_3 a1_0 a1_1 a1_2 a1_3).map gatherumref03_Then.rr.en := by
  unfold gatherumref03_Then.t gatherumref03_Then.f
  refine den_ask (ps := [.int a1_0, .int a1_1, .int a1_2, .int a1_3, .int a0_0, .int a0_1]) (rr := gatherumref03_Do.rr) (G := gatherumref03_Do.f a1_0 a1_1 a1_2 a1_3 a0_0 a0_1) (by rw [h70]; exact gatherumref03_Do.ap a1_0 a1_1 a1_2 a1_3 a0_0 a0_1) rfl rfl fun b0 => ?_
  show Sy.den F K _ _ [.int a0_0, .int a0_1, .int a0_2, .int a0_3, .int a1_0, .int a1_1, .int a1_2, .int a1_3, .int b0.1, .int b0.2] = _
  refine den_ask (ps := [.int a1_0, .int a1_1, .int a1_2, .int a1_3, .int a0_2, .int a0_3]) (rr := gatherumref03_Do.rr) (G := gatherumref03_Do.f a1_0 a1_1 a1_2 a1_3 a0_2 a0_3) (by rw [h70]; exact gatherumref03_Do.ap a1_0 a1_1 a1_2 a1_3 a0_2 a0_3) rfl rfl fun b1 => ?_
  show Sy.den F K _ _ [.int a0_0, .int a0_1, .int a0_2, .int a0_3, .int a1_0, .int a1_1, .int a1_2, .int a1_3, .int b0.1, .int b0.2, .int b1.1, .int b1.2] = _
  exact den_ret rfl
theorem gatherumref03_Then.ok (F : FnE) (K : Nat) (h70 : F 70 = gatherumref03_Do.app) (ps r : List PD) (h : gatherumref03_Then.app ps = some r) : Sy.den F K gatherumref03_Then.t [] ps = some r := by
  obtain ⟨a, rfl, h2⟩ := app_ok (ra := gatherumref03_Then.ra) (rr := gatherumref03_Then.rr) (f := fun x => gatherumref03_Then.f x.1 x.2.1 x.2.2.1 x.2.2.2.1 x.2.2.2.2.1 x.2.2.2.2.2.1 x.2.2.2.2.2.2.1 x.2.2.2.2.2.2.2) h
  rw [← h2]
  exact gatherumref03_Then.den F K h70 (a.1) (a.2.1) (a.2.2.1) (a.2.2.2.1) (a.2.2.2.2.1) (a.2.2.2.2.2.1) (a.2.2.2.2.2.2.1) (a.2.2.2.2.2.2.2)
noncomputable def l82 (K : Nat) : List (Nat × App) := (82, gatherumref03_Then.app) :: l20 K
theorem gd82 (K : Nat) : Sy.Good Try.prog fns (mkF (l82 K)) := good_cons (K := K) gatherumref03_Then.is rfl (by kernel_rfl) (by decide +kernel) envOk relOk relNp mix (gd20 K) noExt_ok (gatherumref03_Then.ok _ K rfl)
/-! ### gatherumref03_Turn: function 85 -/
noncomputable def gatherumref03_Turn.body : Code := Try.f85.body.getD .skip
noncomputable def gatherumref03_Turn.sg : List S1 := [(.agg [.i, .i, .i, .i])]
noncomputable def gatherumref03_Turn.sh : Sh := (.one (.one .i))
noncomputable def gatherumref03_Turn.cf : Cfg := ⟨env, Try.f85.ntmps, Try.f85.results.toList, some gatherumref03_Turn.sh, rel, [2], [((2, 197, 4), ⟨[], [], [(3, [(0, .i)])], []⟩)], noExt⟩
noncomputable def gatherumref03_Turn.b0 : Tree := (.ite (.lt (.va 4) (.nu 8)) (.ask 71 [(.ex (.va 4))] [.i, .i, .i, .i] (.ite (.and (.eq (.va 5) (.va 0)) (.and (.eq (.va 6) (.va 1)) (.and (.eq (.va 7) (.va 2)) (.eq (.va 8) (.va 3))))) (.ret [(.ex (.va 4))]) (.back 0 4 [(.ex (.add (.va 4) (.nu 1)))]))) (.ret [(.ex (.nu (-1)))]))
noncomputable def gatherumref03_Turn.t : Tree := (.loop [(.ex (.nu 0))] [.i] gatherumref03_Turn.b0)
noncomputable def gatherumref03_Turn.ra : Rw (Int × Int × Int × Int) := (rwP rwI (rwP rwI (rwP rwI rwI)))
noncomputable def gatherumref03_Turn.rr : Rw (Int) := rwI
theorem gatherumref03_Turn.rr_en (r : Int) : gatherumref03_Turn.rr.en r = [.int r] := rfl
noncomputable def gatherumref03_Turn.l0 (K : Nat) (p0 : Int) (p1 : Int) (p2 : Int) (p3 : Int) : Nat → (Int) → Option (Int)
  | 0, _ => none
  | k + 1, x0 => (if (decide (x0 < 8)) = true then ((gatherumref03_Of.f K x0).bind fun b0 => (if ((b0.1 == p0) && ((b0.2.1 == p1) && ((b0.2.2.1 == p2) && (b0.2.2.2 == p3)))) = true then some x0 else (gatherumref03_Turn.l0 K p0 p1 p2 p3 k (wrap64 (x0 + 1))))) else some (-1))
noncomputable def gatherumref03_Turn.f (K : Nat) (a0_0 : Int) (a0_1 : Int) (a0_2 : Int) (a0_3 : Int) : Option (Int) := (gatherumref03_Turn.l0 K a0_0 a0_1 a0_2 a0_3 K 0)
noncomputable def gatherumref03_Turn.app (K : Nat) : App := fun ps => (gatherumref03_Turn.ra.de ps).bind fun x => (gatherumref03_Turn.f K x.1 x.2.1 x.2.2.1 x.2.2.2).map gatherumref03_Turn.rr.en
theorem gatherumref03_Turn.ap (K : Nat) (a0_0 : Int) (a0_1 : Int) (a0_2 : Int) (a0_3 : Int) : gatherumref03_Turn.app K [.int a0_0, .int a0_1, .int a0_2, .int a0_3] = (gatherumref03_Turn.f K a0_0 a0_1 a0_2 a0_3).map gatherumref03_Turn.rr.en := app_ap gatherumref03_Turn.ra gatherumref03_Turn.rr (fun x => gatherumref03_Turn.f K x.1 x.2.1 x.2.2.1 x.2.2.2) (a0_0, a0_1, a0_2, a0_3)
theorem gatherumref03_Turn.is : FnIs Try.prog 85 (.init gatherumref03_Turn.sg) gatherumref03_Turn.t gatherumref03_Turn.cf := ⟨Try.f85, gatherumref03_Turn.body, 6000, Try.func85, by kernel_rfl, rfl, rfl, by decide +kernel, by kernel_rfl⟩
theorem gatherumref03_Turn.l0_den (F : FnE) (K : Nat) (h71 : F 71 = gatherumref03_Of.app K) (Js : List (List PD → Option (List PD))) (p0 : Int) (p1 : Int) (p2 : Int) (p3 : Int) : ∀ (k : Nat) (x0 : Int), iterF (fun J ρ' => den F K gatherumref03_Turn.b0 (J :: Js) ρ') k [.int p0, .int p1, .int p2, .int p3, .int x0] = (gatherumref03_Turn.l0 K p0 p1 p2 p3 k x0).map gatherumref03_Turn.rr.en := by
  intro k
  induction k with
  | zero => intros; rfl
  | succ k ih =>
    intro x0
    show Sy.den F K gatherumref03_Turn.b0 (iterF (fun J ρ' => Sy.den F K gatherumref03_Turn.b0 (J :: Js) ρ') k :: Js) [.int p0, .int p1, .int p2, .int p3, .int x0] = _
    revert ih
    generalize iterF (fun J ρ' => Sy.den F K gatherumref03_Turn.b0 (J :: Js) ρ') k = J0
    intro ih
    rw [gatherumref03_Turn.l0]
    show Sy.den F K gatherumref03_Turn.b0 _ [.int p0, .int p1, .int p2, .int p3, .int x0] = _
    unfold gatherumref03_Turn.b0
    refine den_ite (b := (decide (x0 < 8))) rfl ?_ ?_
    refine den_ask (ps := [.int x0]) (rr := gatherumref03_Of.rr) (G := gatherumref03_Of.f K x0) (by rw [h71]; exact gatherumref03_Of.ap K x0) rfl rfl fun b0 => ?_
    show Sy.den F K _ _ [.int p0, .int p1, .int p2, .int p3, .int x0, .int b0.1, .int b0.2.1, .int b0.2.2.1, .int b0.2.2.2] = _
    refine den_ite (b := ((b0.1 == p0) && ((b0.2.1 == p1) && ((b0.2.2.1 == p2) && (b0.2.2.2 == p3))))) rfl ?_ ?_
    exact den_ret rfl
    refine den_back (vs := [.int (wrap64 (x0 + 1))]) rfl rfl ?_
    exact ih (wrap64 (x0 + 1))
    exact den_ret rfl
theorem gatherumref03_Turn.den (F : FnE) (K : Nat) (h71 : F 71 = gatherumref03_Of.app K) (a0_0 : Int) (a0_1 : Int) (a0_2 : Int) (a0_3 : Int) : Sy.den F K gatherumref03_Turn.t [] [.int a0_0, .int a0_1, .int a0_2, .int a0_3] = (gatherumref03_Turn.f K a0_0 a0_1 a0_2 a0_3).map gatherumref03_Turn.rr.en := by
  unfold gatherumref03_Turn.t gatherumref03_Turn.f
  refine den_loop (vs := [.int 0]) rfl ?_
  exact gatherumref03_Turn.l0_den F K h71 [] a0_0 a0_1 a0_2 a0_3 K 0
theorem gatherumref03_Turn.ok (F : FnE) (K : Nat) (h71 : F 71 = gatherumref03_Of.app K) (ps r : List PD) (h : gatherumref03_Turn.app K ps = some r) : Sy.den F K gatherumref03_Turn.t [] ps = some r := by
  obtain ⟨a, rfl, h2⟩ := app_ok (ra := gatherumref03_Turn.ra) (rr := gatherumref03_Turn.rr) (f := fun x => gatherumref03_Turn.f K x.1 x.2.1 x.2.2.1 x.2.2.2) h
  rw [← h2]
  exact gatherumref03_Turn.den F K h71 (a.1) (a.2.1) (a.2.2.1) (a.2.2.2)
noncomputable def l85 (K : Nat) : List (Nat × App) := (85, gatherumref03_Turn.app K) :: l82 K
theorem gd85 (K : Nat) : Sy.Good Try.prog fns (mkF (l85 K)) := good_cons (K := K) gatherumref03_Turn.is rfl (by kernel_rfl) (by decide +kernel) envOk relOk relNp mix (gd82 K) noExt_ok (gatherumref03_Turn.ok _ K rfl)
/-! ### gatherumref04_Then: function 42 -/
noncomputable def gatherumref04_Then.body : Code := Try.f42.body.getD .skip
noncomputable def gatherumref04_Then.sg : List S1 := [(.agg [.i, .i, .i]), (.agg [.i, .i, .i])]
noncomputable def gatherumref04_Then.sh : Sh := (.one (.agg [.i, .i, .i]))
noncomputable def gatherumref04_Then.cf : Cfg := ⟨env, Try.f42.ntmps, Try.f42.results.toList, some gatherumref04_Then.sh, rel, [], [], noExt⟩
noncomputable def gatherumref04_Then.t : Tree := (.ask 17 [(.ex (.va 3)), (.ex (.va 4)), (.ex (.va 5)), (.ex (.va 1)), (.ex (.va 2))] [.i, .i] (.ask 71 [(.ex (.va 0))] [.i, .i, .i, .i] (.ask 71 [(.ex (.va 3))] [.i, .i, .i, .i] (.ask 82 [(.ex (.va 8)), (.ex (.va 9)), (.ex (.va 10)), (.ex (.va 11)), (.ex (.va 12)), (.ex (.va 13)), (.ex (.va 14)), (.ex (.va 15))] [.i, .i, .i, .i] (.ask 85 [(.ex (.va 16)), (.ex (.va 17)), (.ex (.va 18)), (.ex (.va 19))] [.i] (.ret [(.ex (.va 20)), (.ex (.va 6)), (.ex (.va 7))]))))))
noncomputable def gatherumref04_Then.ra : Rw (Int × Int × Int × Int × Int × Int) := (rwP rwI (rwP rwI (rwP rwI (rwP rwI (rwP rwI rwI)))))
noncomputable def gatherumref04_Then.rr : Rw (Int × Int × Int) := (rwP rwI (rwP rwI rwI))
theorem gatherumref04_Then.rr_en (r : Int × Int × Int) : gatherumref04_Then.rr.en r = [.int r.1, .int r.2.1, .int r.2.2] := rfl
noncomputable def gatherumref04_Then.f (K : Nat) (a0_0 : Int) (a0_1 : Int) (a0_2 : Int) (a1_0 : Int) (a1_1 : Int) (a1_2 : Int) : Option (Int × Int × Int) := ((gatherumref04_Do.f K a1_0 a1_1 a1_2 a0_1 a0_2).bind fun b0 => ((gatherumref03_Of.f K a0_0).bind fun b1 => ((gatherumref03_Of.f K a1_0).bind fun b2 => ((gatherumref03_Then.f b1.1 b1.2.1 b1.2.2.1 b1.2.2.2 b2.1 b2.2.1 b2.2.2.1 b2.2.2.2).bind fun b3 => ((gatherumref03_Turn.f K b3.1 b3.2.1 b3.2.2.1 b3.2.2.2).bind fun b4 => some (b4, b0.1, b0.2))))))
noncomputable def gatherumref04_Then.app (K : Nat) : App := fun ps => (gatherumref04_Then.ra.de ps).bind fun x => (gatherumref04_Then.f K x.1 x.2.1 x.2.2.1 x.2.2.2.1 x.2.2.2.2.1 x.2.2.2.2.2).map gatherumref04_Then.rr.en
theorem gatherumref04_Then.ap (K : Nat) (a0_0 : Int) (a0_1 : Int) (a0_2 : Int) (a1_0 : Int) (a1_1 : Int) (a1_2 : Int) : gatherumref04_Then.app K [.int a0_0, .int a0_1, .int a0_2, .int a1_0, .int a1_1, .int a1_2] = (gatherumref04_Then.f K a0_0 a0_1 a0_2 a1_0 a1_1 a1_2).map gatherumref04_Then.rr.en := app_ap gatherumref04_Then.ra gatherumref04_Then.rr (fun x => gatherumref04_Then.f K x.1 x.2.1 x.2.2.1 x.2.2.2.1 x.2.2.2.2.1 x.2.2.2.2.2) (a0_0, a0_1, a0_2, a1_0, a1_1, a1_2)
theorem gatherumref04_Then.is : FnIs Try.prog 42 (.init gatherumref04_Then.sg) gatherumref04_Then.t gatherumref04_Then.cf := ⟨Try.f42, gatherumref04_Then.body, 6000, Try.func42, by kernel_rfl, rfl, rfl, by decide +kernel, by kernel_rfl⟩
theorem gatherumref04_Then.den (F : FnE) (K : Nat) (h17 : F 17 = gatherumref04_Do.app K) (h71 : F 71 = gatherumref03_Of.app K) (h82 : F 82 = gatherumref03_Then.app) (h85 : F 85 = gatherumref03_Turn.app K) (a0_0 : Int) (a0_1 : Int) (a0_2 : Int) (a1_0 : Int) (a1_1 : Int) (a1_2 : Int) : Sy.den F K gatherumref04_Then.t [] [.int a0_0, .int a0_1, .int a0_2, .int a1_0, .int a1_1, .int a1_2] = (gatherumref04_Then.f K a0_0 a0_1 a0_2 a1_0 a1_1 a1_2).map gatherumref04_Then.rr.en := by
  unfold gatherumref04_Then.t gatherumref04_Then.f
  refine den_ask (ps := [.int a1_0, .int a1_1, .int a1_2, .int a0_1, .int a0_2]) (rr := gatherumref04_Do.rr) (G := gatherumref04_Do.f K a1_0 a1_1 a1_2 a0_1 a0_2) (by rw [h17]; exact gatherumref04_Do.ap K a1_0 a1_1 a1_2 a0_1 a0_2) rfl rfl fun b0 => ?_
  show Sy.den F K _ _ [.int a0_0, .int a0_1, .int a0_2, .int a1_0, .int a1_1, .int a1_2, .int b0.1, .int b0.2] = _
  refine den_ask (ps := [.int a0_0]) (rr := gatherumref03_Of.rr) (G := gatherumref03_Of.f K a0_0) (by rw [h71]; exact gatherumref03_Of.ap K a0_0) rfl rfl fun b1 => ?_
  show Sy.den F K _ _ [.int a0_0, .int a0_1, .int a0_2, .int a1_0, .int a1_1, .int a1_2, .int b0.1, .int b0.2, .int b1.1, .int b1.2.1, .int b1.2.2.1, .int b1.2.2.2] = _
  refine den_ask (ps := [.int a1_0]) (rr := gatherumref03_Of.rr) (G := gatherumref03_Of.f K a1_0) (by rw [h71]; exact gatherumref03_Of.ap K a1_0) rfl rfl fun b2 => ?_
  show Sy.den F K _ _ [.int a0_0, .int a0_1, .int a0_2, .int a1_0, .int a1_1, .int a1_2, .int b0.1, .int b0.2, .int b1.1, .int b1.2.1, .int b1.2.2.1, .int b1.2.2.2, .int b2.1, .int b2.2.1, .int b2.2.2.1, .int b2.2.2.2] = _
  refine den_ask (ps := [.int b1.1, .int b1.2.1, .int b1.2.2.1, .int b1.2.2.2, .int b2.1, .int b2.2.1, .int b2.2.2.1, .int b2.2.2.2]) (rr := gatherumref03_Then.rr) (G := gatherumref03_Then.f b1.1 b1.2.1 b1.2.2.1 b1.2.2.2 b2.1 b2.2.1 b2.2.2.1 b2.2.2.2) (by rw [h82]; exact gatherumref03_Then.ap b1.1 b1.2.1 b1.2.2.1 b1.2.2.2 b2.1 b2.2.1 b2.2.2.1 b2.2.2.2) rfl rfl fun b3 => ?_
  show Sy.den F K _ _ [.int a0_0, .int a0_1, .int a0_2, .int a1_0, .int a1_1, .int a1_2, .int b0.1, .int b0.2, .int b1.1, .int b1.2.1, .int b1.2.2.1, .int b1.2.2.2, .int b2.1, .int b2.2.1, .int b2.2.2.1, .int b2.2.2.2, .int b3.1, .int b3.2.1, .int b3.2.2.1, .int b3.2.2.2] = _
  refine den_ask (ps := [.int b3.1, .int b3.2.1, .int b3.2.2.1, .int b3.2.2.2]) (rr := gatherumref03_Turn.rr) (G := gatherumref03_Turn.f K b3.1 b3.2.1 b3.2.2.1 b3.2.2.2) (by rw [h85]; exact gatherumref03_Turn.ap K b3.1 b3.2.1 b3.2.2.1 b3.2.2.2) rfl rfl fun b4 => ?_
  show Sy.den F K _ _ [.int a0_0, .int a0_1, .int a0_2, .int a1_0, .int a1_1, .int a1_2, .int b0.1, .int b0.2, .int b1.1, .int b1.2.1, .int b1.2.2.1, .int b1.2.2.2, .int b2.1, .int b2.2.1, .int b2.2.2.1, .int b2.2.2.2, .int b3.1, .int b3.2.1, .int b3.2.2.1, .int b3.2.2.2, .int b4] = _
  exact den_ret rfl
theorem gatherumref04_Then.ok (F : FnE) (K : Nat) (h17 : F 17 = gatherumref04_Do.app K) (h71 : F 71 = gatherumref03_Of.app K) (h82 : F 82 = gatherumref03_Then.app) (h85 : F 85 = gatherumref03_Turn.app K) (ps r : List PD) (h : gatherumref04_Then.app K ps = some r) : Sy.den F K gatherumref04_Then.t [] ps = some r := by
  obtain ⟨a, rfl, h2⟩ := app_ok (ra := gatherumref04_Then.ra) (rr := gatherumref04_Then.rr) (f := fun x => gatherumref04_Then.f K x.1 x.2.1 x.2.2.1 x.2.2.2.1 x.2.2.2.2.1 x.2.2.2.2.2) h
  rw [← h2]
  exact gatherumref04_Then.den F K h17 h71 h82 h85 (a.1) (a.2.1) (a.2.2.1) (a.2.2.2.1) (a.2.2.2.2.1) (a.2.2.2.2.2)
noncomputable def l42 (K : Nat) : List (Nat × App) := (42, gatherumref04_Then.app K) :: l85 K
theorem gd42 (K : Nat) : Sy.Good Try.prog fns (mkF (l42 K)) := good_cons (K := K) gatherumref04_Then.is rfl (by kernel_rfl) (by decide +kernel) envOk relOk relNp mix (gd85 K) noExt_ok (gatherumref04_Then.ok _ K rfl rfl rfl rfl)
/-! ### gatherumref04_Empty: function 18 -/
noncomputable def gatherumref04_Empty.body : Code := Try.f18.body.getD .skip
noncomputable def gatherumref04_Empty.sg : List S1 := [(.agg [.i, .i, .i, .i])]
noncomputable def gatherumref04_Empty.sh : Sh := (.one (.one .b))
noncomputable def gatherumref04_Empty.cf : Cfg := ⟨env, Try.f18.ntmps, Try.f18.results.toList, some gatherumref04_Empty.sh, rel, [], [], noExt⟩
noncomputable def gatherumref04_Empty.t : Tree := (.ite (.le (.va 2) (.va 0)) (.ret [(.bo (.co true))]) (.ret [(.bo (.le (.va 3) (.va 1)))]))
noncomputable def gatherumref04_Empty.ra : Rw (Int × Int × Int × Int) := (rwP rwI (rwP rwI (rwP rwI rwI)))
noncomputable def gatherumref04_Empty.rr : Rw (Bool) := rwB
theorem gatherumref04_Empty.rr_en (r : Bool) : gatherumref04_Empty.rr.en r = [.bool r] := rfl
noncomputable def gatherumref04_Empty.f (a0_0 : Int) (a0_1 : Int) (a0_2 : Int) (a0_3 : Int) : Option (Bool) := (if (decide (a0_2 ≤ a0_0)) = true then some true else some (decide (a0_3 ≤ a0_1)))
noncomputable def gatherumref04_Empty.app : App := fun ps => (gatherumref04_Empty.ra.de ps).bind fun x => (gatherumref04_Empty.f x.1 x.2.1 x.2.2.1 x.2.2.2).map gatherumref04_Empty.rr.en
theorem gatherumref04_Empty.ap (a0_0 : Int) (a0_1 : Int) (a0_2 : Int) (a0_3 : Int) : gatherumref04_Empty.app [.int a0_0, .int a0_1, .int a0_2, .int a0_3] = (gatherumref04_Empty.f a0_0 a0_1 a0_2 a0_3).map gatherumref04_Empty.rr.en := app_ap gatherumref04_Empty.ra gatherumref04_Empty.rr (fun x => gatherumref04_Empty.f x.1 x.2.1 x.2.2.1 x.2.2.2) (a0_0, a0_1, a0_2, a0_3)
theorem gatherumref04_Empty.is : FnIs Try.prog 18 (.init gatherumref04_Empty.sg) gatherumref04_Empty.t gatherumref04_Empty.cf := ⟨Try.f18, gatherumref04_Empty.body, 6000, Try.func18, by kernel_rfl, rfl, rfl, by decide +kernel, by kernel_rfl⟩
theorem gatherumref04_Empty.den (F : FnE) (K : Nat) (a0_0 : Int) (a0_1 : Int) (a0_2 : Int) (a0_3 : Int) : Sy.den F K gatherumref04_Empty.t [] [.int a0_0, .int a0_1, .int a0_2, .int a0_3] = (gatherumref04_Empty.f a0_0 a0_1 a0_2 a0_3).map gatherumref04_Empty.rr.en := by
  unfold gatherumref04_Empty.t gatherumref04_Empty.f
  refine den_ite (b := (decide (a0_2 ≤ a0_0))) rfl ?_ ?_
  exact den_ret rfl
  exact den_ret rfl
theorem gatherumref04_Empty.ok (F : FnE) (K : Nat) (ps r : List PD) (h : gatherumref04_Empty.app ps = some r) : Sy.den F K gatherumref04_Empty.t [] ps = some r := by
  obtain ⟨a, rfl, h2⟩ := app_ok (ra := gatherumref04_Empty.ra) (rr := gatherumref04_Empty.rr) (f := fun x => gatherumref04_Empty.f x.1 x.2.1 x.2.2.1 x.2.2.2) h
  rw [← h2]
  exact gatherumref04_Empty.den F K (a.1) (a.2.1) (a.2.2.1) (a.2.2.2)
noncomputable def l18 (K : Nat) : List (Nat × App) := (18, gatherumref04_Empty.app) :: l42 K
theorem gd18 (K : Nat) : Sy.Good Try.prog fns (mkF (l18 K)) := good_cons (K := K) gatherumref04_Empty.is rfl (by kernel_rfl) (by decide +kernel) envOk relOk relNp mix (gd42 K) noExt_ok (gatherumref04_Empty.ok _ K)
/-! ### gatherumref04_Meet: function 46 -/
noncomputable def gatherumref04_Meet.body : Code := Try.f46.body.getD .skip
noncomputable def gatherumref04_Meet.sg : List S1 := [(.agg [.i, .i, .i, .i]), (.agg [.i, .i, .i, .i])]
noncomputable def gatherumref04_Meet.sh : Sh := (.one (.agg [.i, .i, .i, .i]))
noncomputable def gatherumref04_Meet.cf : Cfg := ⟨env, Try.f46.ntmps, Try.f46.results.toList, some gatherumref04_Meet.sh, rel, [], [], noExt⟩
noncomputable def gatherumref04_Meet.t : Tree := (.ask 73 [(.ex (.va 0)), (.ex (.va 4))] [.i] (.ask 73 [(.ex (.va 1)), (.ex (.va 5))] [.i] (.ask 72 [(.ex (.va 2)), (.ex (.va 6))] [.i] (.ask 72 [(.ex (.va 3)), (.ex (.va 7))] [.i] (.ask 18 [(.ex (.va 8)), (.ex (.va 9)), (.ex (.va 10)), (.ex (.va 11))] [.b] (.ite (.va 12) (.ret [(.ex (.nu 0)), (.ex (.nu 0)), (.ex (.nu 0)), (.ex (.nu 0))]) (.ret [(.ex (.va 8)), (.ex (.va 9)), (.ex (.va 10)), (.ex (.va 11))])))))))
noncomputable def gatherumref04_Meet.ra : Rw (Int × Int × Int × Int × Int × Int × Int × Int) := (rwP rwI (rwP rwI (rwP rwI (rwP rwI (rwP rwI (rwP rwI (rwP rwI rwI)))))))
noncomputable def gatherumref04_Meet.rr : Rw (Int × Int × Int × Int) := (rwP rwI (rwP rwI (rwP rwI rwI)))
theorem gatherumref04_Meet.rr_en (r : Int × Int × Int × Int) : gatherumref04_Meet.rr.en r = [.int r.1, .int r.2.1, .int r.2.2.1, .int r.2.2.2] := rfl
noncomputable def gatherumref04_Meet.f (a0_0 : Int) (a0_1 : Int) (a0_2 : Int) (a0_3 : Int) (a1_0 : Int) (a1_1 : Int) (a1_2 : Int) (a1_3 : Int) : Option (Int × Int × Int × Int) := ((gatherumref04_high.f a0_0 a1_0).bind fun b0 => ((gatherumref04_high.f a0_1 a1_1).bind fun b1 => ((gatherumref04_low.f a0_2 a1_2).bind fun b2 => ((gatherumref04_low.f a0_3 a1_3).bind fun b3 => ((gatherumref04_Empty.f b0 b1 b2 b3).bind fun b4 => (if b4 = true then some (0, 0, 0, 0) else some (b0, b1, b2, b3)))))))
noncomputable def gatherumref04_Meet.app : App := fun ps => (gatherumref04_Meet.ra.de ps).bind fun x => (gatherumref04_Meet.f x.1 x.2.1 x.2.2.1 x.2.2.2.1 x.2.2.2.2.1 x.2.2.2.2.2.1 x.2.2.2.2.2.2.1 x.2.2.2.2.2.2.2).map gatherumref04_Meet.rr.en
theorem gatherumref04_Meet.ap (a0_0 : Int) (a0_1 : Int) (a0_2 : Int) (a0_3 : Int) (a1_0 : Int) (a1_1 : Int) (a1_2 : Int) (a1_3 : Int) : gatherumref04_Meet.app [.int a0_0, .int a0_1, .int a0_2, .int a0_3, .int a1_0, .int a1_1, .int a1_2, .int a1_3] = (gatherumref04_Meet.f a0_0 a0_1 a0_2 a0_3 a1_0 a1_1 a1_2 a1_3).map gatherumref04_Meet.rr.en := app_ap gatherumref04_Meet.ra gatherumref04_Meet.rr (fun x => gatherumref04_Meet.f x.1 x.2.1 x.2.2.1 x.2.2.2.1 x.2.2.2.2.1 x.2.2.2.2.2.1 x.2.2.2.2.2.2.1 x.2.2.2.2.2.2.2) (a0_0, a0_1, a0_2, a0_3, a1_0, a1_1, a1_2, a1_3)
theorem gatherumref04_Meet.is : FnIs Try.prog 46 (.init gatherumref04_Meet.sg) gatherumref04_Meet.t gatherumref04_Meet.cf := ⟨Try.f46, gatherumref04_Meet.body, 6000, Try.func46, by kernel_rfl, rfl, rfl, by decide +kernel, by kernel_rfl⟩
theorem gatherumref04_Meet.den (F : FnE) (K : Nat) (h18 : F 18 = gatherumref04_Empty.app) (h72 : F 72 = gatherumref04_low.app) (h73 : F 73 = gatherumref04_high.app) (a0_0 : Int) (a0_1 : Int) (a0_2 : Int) (a0_3 : Int) (a1_0 : Int) (a1_1 : Int) (a1_2 : Int) (a1_3 : Int) : Sy.den F K gatherumref04_Meet.t [] [.int a0_0, .int a0_1, .int a0_2, .int a0_3, .int a1_0, .int a1_1, .int a1_2, .int a1_3] = (gatherumref04_Meet.f a0_0 a0_1 a0_2 a0_3 a1_0 a1_1 a1_2 a1_3).map gatherumref04_Meet.rr.en := by
  unfold gatherumref04_Meet.t gatherumref04_Meet.f
  refine den_ask (ps := [.int a0_0, .int a1_0]) (rr := gatherumref04_high.rr) (G := gatherumref04_high.f a0_0 a1_0) (by rw [h73]; exact gatherumref04_high.ap a0_0 a1_0) rfl rfl fun b0 => ?_
  show Sy.den F K _ _ [.int a0_0, .int a0_1, .int a0_2, .int a0_3, .int a1_0, .int a1_1, .int a1_2, .int a1_3, .int b0] = _
  refine den_ask (ps := [.int a0_1, .int a1_1]) (rr := gatherumref04_high.rr) (G := gatherumref04_high.f a0_1 a1_1) (by rw [h73]; exact gatherumref04_high.ap a0_1 a1_1) rfl rfl fun b1 => ?_
  show Sy.den F K _ _ [.int a0_0, .int a0_1, .int a0_2, .int a0_3, .int a1_0, .int a1_1, .int a1_2, .int a1_3, .int b0, .int b1] = _
  refine den_ask (ps := [.int a0_2, .int a1_2]) (rr := gatherumref04_low.rr) (G := gatherumref04_low.f a0_2 a1_2) (by rw [h72]; exact gatherumref04_low.ap a0_2 a1_2) rfl rfl fun b2 => ?_
  show Sy.den F K _ _ [.int a0_0, .int a0_1, .int a0_2, .int a0_3, .int a1_0, .int a1_1, .int a1_2, .int a1_3, .int b0, .int b1, .int b2] = _
  refine den_ask (ps := [.int a0_3, .int a1_3]) (rr := gatherumref04_low.rr) (G := gatherumref04_low.f a0_3 a1_3) (by rw [h72]; exact gatherumref04_low.ap a0_3 a1_3) rfl rfl fun b3 => ?_
  show Sy.den F K _ _ [.int a0_0, .int a0_1, .int a0_2, .int a0_3, .int a1_0, .int a1_1, .int a1_2, .int a1_3, .int b0, .int b1, .int b2, .int b3] = _
  refine den_ask (ps := [.int b0, .int b1, .int b2, .int b3]) (rr := gatherumref04_Empty.rr) (G := gatherumref04_Empty.f b0 b1 b2 b3) (by rw [h18]; exact gatherumref04_Empty.ap b0 b1 b2 b3) rfl rfl fun b4 => ?_
  show Sy.den F K _ _ [.int a0_0, .int a0_1, .int a0_2, .int a0_3, .int a1_0, .int a1_1, .int a1_2, .int a1_3, .int b0, .int b1, .int b2, .int b3, .bool b4] = _
  refine den_ite (b := b4) rfl ?_ ?_
  exact den_ret rfl
  exact den_ret rfl
theorem gatherumref04_Meet.ok (F : FnE) (K : Nat) (h18 : F 18 = gatherumref04_Empty.app) (h72 : F 72 = gatherumref04_low.app) (h73 : F 73 = gatherumref04_high.app) (ps r : List PD) (h : gatherumref04_Meet.app ps = some r) : Sy.den F K gatherumref04_Meet.t [] ps = some r := by
  obtain ⟨a, rfl, h2⟩ := app_ok (ra := gatherumref04_Meet.ra) (rr := gatherumref04_Meet.rr) (f := fun x => gatherumref04_Meet.f x.1 x.2.1 x.2.2.1 x.2.2.2.1 x.2.2.2.2.1 x.2.2.2.2.2.1 x.2.2.2.2.2.2.1 x.2.2.2.2.2.2.2) h
  rw [← h2]
  exact gatherumref04_Meet.den F K h18 h72 h73 (a.1) (a.2.1) (a.2.2.1) (a.2.2.2.1) (a.2.2.2.2.1) (a.2.2.2.2.2.1) (a.2.2.2.2.2.2.1) (a.2.2.2.2.2.2.2)
noncomputable def l46 (K : Nat) : List (Nat × App) := (46, gatherumref04_Meet.app) :: l18 K
theorem gd46 (K : Nat) : Sy.Good Try.prog fns (mkF (l46 K)) := good_cons (K := K) gatherumref04_Meet.is rfl (by kernel_rfl) (by decide +kernel) envOk relOk relNp mix (gd18 K) noExt_ok (gatherumref04_Meet.ok _ K rfl rfl rfl)
/-! ### turn_Mirrors: function 84 -/
noncomputable def turn_Mirrors.body : Code := Try.f84.body.getD .skip
noncomputable def turn_Mirrors.sg : List S1 := [(.one .i)]
noncomputable def turn_Mirrors.sh : Sh := (.one (.one .b))
noncomputable def turn_Mirrors.cf : Cfg := ⟨env, Try.f84.ntmps, Try.f84.results.toList, some turn_Mirrors.sh, rel, [], [], noExt⟩
noncomputable def turn_Mirrors.t : Tree := (.ret [(.bo (.not (.eq (.and (.va 0) (.nu 4)) (.nu 0))))])
noncomputable def turn_Mirrors.ra : Rw (Int) := rwI
noncomputable def turn_Mirrors.rr : Rw (Bool) := rwB
theorem turn_Mirrors.rr_en (r : Bool) : turn_Mirrors.rr.en r = [.bool r] := rfl
noncomputable def turn_Mirrors.f (a0 : Int) : Option (Bool) := some (!((Go.bits .and .i64 a0 4) == 0))
noncomputable def turn_Mirrors.app : App := fun ps => (turn_Mirrors.ra.de ps).bind fun x => (turn_Mirrors.f x).map turn_Mirrors.rr.en
theorem turn_Mirrors.ap (a0 : Int) : turn_Mirrors.app [.int a0] = (turn_Mirrors.f a0).map turn_Mirrors.rr.en := app_ap turn_Mirrors.ra turn_Mirrors.rr (fun x => turn_Mirrors.f x) (a0)
theorem turn_Mirrors.is : FnIs Try.prog 84 (.init turn_Mirrors.sg) turn_Mirrors.t turn_Mirrors.cf := ⟨Try.f84, turn_Mirrors.body, 6000, Try.func84, by kernel_rfl, rfl, rfl, by decide +kernel, by kernel_rfl⟩
theorem turn_Mirrors.den (F : FnE) (K : Nat) (a0 : Int) : Sy.den F K turn_Mirrors.t [] [.int a0] = (turn_Mirrors.f a0).map turn_Mirrors.rr.en := by
  unfold turn_Mirrors.t turn_Mirrors.f
  exact den_ret rfl
theorem turn_Mirrors.ok (F : FnE) (K : Nat) (ps r : List PD) (h : turn_Mirrors.app ps = some r) : Sy.den F K turn_Mirrors.t [] ps = some r := by
  obtain ⟨a, rfl, h2⟩ := app_ok (ra := turn_Mirrors.ra) (rr := turn_Mirrors.rr) (f := fun x => turn_Mirrors.f x) h
  rw [← h2]
  exact turn_Mirrors.den F K a
noncomputable def l84 (K : Nat) : List (Nat × App) := (84, turn_Mirrors.app) :: l46 K
theorem gd84 (K : Nat) : Sy.Good Try.prog fns (mkF (l84 K)) := good_cons (K := K) turn_Mirrors.is rfl (by kernel_rfl) (by decide +kernel) envOk relOk relNp mix (gd46 K) noExt_ok (turn_Mirrors.ok _ K)
/-! ### layer_Up: function 41 -/
noncomputable def layer_Up.body : Code := Try.f41.body.getD .skip
noncomputable def layer_Up.sg : List S1 := [(.agg [.i, .i, .i, .i, .i, .i, .i])]
noncomputable def layer_Up.sh : Sh := (.one (.one .b))
noncomputable def layer_Up.cf : Cfg := ⟨env, Try.f41.ntmps, Try.f41.results.toList, some layer_Up.sh, rel, [], [], noExt⟩
noncomputable def layer_Up.t : Tree := (.ask 84 [(.ex (.va 4))] [.b] (.ret [(.bo (.not (.va 7)))]))
noncomputable def layer_Up.ra : Rw (Int × Int × Int × Int × Int × Int × Int) := (rwP rwI (rwP rwI (rwP rwI (rwP rwI (rwP rwI (rwP rwI rwI))))))
noncomputable def layer_Up.rr : Rw (Bool) := rwB
theorem layer_Up.rr_en (r : Bool) : layer_Up.rr.en r = [.bool r] := rfl
noncomputable def layer_Up.f (a0_0 : Int) (a0_1 : Int) (a0_2 : Int) (a0_3 : Int) (a0_4 : Int) (a0_5 : Int) (a0_6 : Int) : Option (Bool) := ((turn_Mirrors.f a0_4).bind fun b0 => some (!b0))
noncomputable def layer_Up.app : App := fun ps => (layer_Up.ra.de ps).bind fun x => (layer_Up.f x.1 x.2.1 x.2.2.1 x.2.2.2.1 x.2.2.2.2.1 x.2.2.2.2.2.1 x.2.2.2.2.2.2).map layer_Up.rr.en
theorem layer_Up.ap (a0_0 : Int) (a0_1 : Int) (a0_2 : Int) (a0_3 : Int) (a0_4 : Int) (a0_5 : Int) (a0_6 : Int) : layer_Up.app [.int a0_0, .int a0_1, .int a0_2, .int a0_3, .int a0_4, .int a0_5, .int a0_6] = (layer_Up.f a0_0 a0_1 a0_2 a0_3 a0_4 a0_5 a0_6).map layer_Up.rr.en := app_ap layer_Up.ra layer_Up.rr (fun x => layer_Up.f x.1 x.2.1 x.2.2.1 x.2.2.2.1 x.2.2.2.2.1 x.2.2.2.2.2.1 x.2.2.2.2.2.2) (a0_0, a0_1, a0_2, a0_3, a0_4, a0_5, a0_6)
theorem layer_Up.is : FnIs Try.prog 41 (.init layer_Up.sg) layer_Up.t layer_Up.cf := ⟨Try.f41, layer_Up.body, 6000, Try.func41, by kernel_rfl, rfl, rfl, by decide +kernel, by kernel_rfl⟩
theorem layer_Up.den (F : FnE) (K : Nat) (h84 : F 84 = turn_Mirrors.app) (a0_0 : Int) (a0_1 : Int) (a0_2 : Int) (a0_3 : Int) (a0_4 : Int) (a0_5 : Int) (a0_6 : Int) : Sy.den F K layer_Up.t [] [.int a0_0, .int a0_1, .int a0_2, .int a0_3, .int a0_4, .int a0_5, .int a0_6] = (layer_Up.f a0_0 a0_1 a0_2 a0_3 a0_4 a0_5 a0_6).map layer_Up.rr.en := by
  unfold layer_Up.t layer_Up.f
  refine den_ask (ps := [.int a0_4]) (rr := turn_Mirrors.rr) (G := turn_Mirrors.f a0_4) (by rw [h84]; exact turn_Mirrors.ap a0_4) rfl rfl fun b0 => ?_
  show Sy.den F K _ _ [.int a0_0, .int a0_1, .int a0_2, .int a0_3, .int a0_4, .int a0_5, .int a0_6, .bool b0] = _
  exact den_ret rfl
theorem layer_Up.ok (F : FnE) (K : Nat) (h84 : F 84 = turn_Mirrors.app) (ps r : List PD) (h : layer_Up.app ps = some r) : Sy.den F K layer_Up.t [] ps = some r := by
  obtain ⟨a, rfl, h2⟩ := app_ok (ra := layer_Up.ra) (rr := layer_Up.rr) (f := fun x => layer_Up.f x.1 x.2.1 x.2.2.1 x.2.2.2.1 x.2.2.2.2.1 x.2.2.2.2.2.1 x.2.2.2.2.2.2) h
  rw [← h2]
  exact layer_Up.den F K h84 (a.1) (a.2.1) (a.2.2.1) (a.2.2.2.1) (a.2.2.2.2.1) (a.2.2.2.2.2.1) (a.2.2.2.2.2.2)
noncomputable def l41 (K : Nat) : List (Nat × App) := (41, layer_Up.app) :: l84 K
theorem gd41 (K : Nat) : Sy.Good Try.prog fns (mkF (l41 K)) := good_cons (K := K) layer_Up.is rfl (by kernel_rfl) (by decide +kernel) envOk relOk relNp mix (gd84 K) noExt_ok (layer_Up.ok _ K rfl)
/-! ### box_Empty: function 86 -/
noncomputable def box_Empty.body : Code := Try.f86.body.getD .skip
noncomputable def box_Empty.sg : List S1 := [(.agg [.i, .i, .i, .i])]
noncomputable def box_Empty.sh : Sh := (.one (.one .b))
noncomputable def box_Empty.cf : Cfg := ⟨env, Try.f86.ntmps, Try.f86.results.toList, some box_Empty.sh, rel, [], [], noExt⟩
noncomputable def box_Empty.t : Tree := (.ite (.le (.va 2) (.va 0)) (.ret [(.bo (.co true))]) (.ret [(.bo (.le (.va 3) (.va 1)))]))
noncomputable def box_Empty.ra : Rw (Int × Int × Int × Int) := (rwP rwI (rwP rwI (rwP rwI rwI)))
noncomputable def box_Empty.rr : Rw (Bool) := rwB
theorem box_Empty.rr_en (r : Bool) : box_Empty.rr.en r = [.bool r] := rfl
noncomputable def box_Empty.f (a0_0 : Int) (a0_1 : Int) (a0_2 : Int) (a0_3 : Int) : Option (Bool) := (if (decide (a0_2 ≤ a0_0)) = true then some true else some (decide (a0_3 ≤ a0_1)))
noncomputable def box_Empty.app : App := fun ps => (box_Empty.ra.de ps).bind fun x => (box_Empty.f x.1 x.2.1 x.2.2.1 x.2.2.2).map box_Empty.rr.en
theorem box_Empty.ap (a0_0 : Int) (a0_1 : Int) (a0_2 : Int) (a0_3 : Int) : box_Empty.app [.int a0_0, .int a0_1, .int a0_2, .int a0_3] = (box_Empty.f a0_0 a0_1 a0_2 a0_3).map box_Empty.rr.en := app_ap box_Empty.ra box_Empty.rr (fun x => box_Empty.f x.1 x.2.1 x.2.2.1 x.2.2.2) (a0_0, a0_1, a0_2, a0_3)
theorem box_Empty.is : FnIs Try.prog 86 (.init box_Empty.sg) box_Empty.t box_Empty.cf := ⟨Try.f86, box_Empty.body, 6000, Try.func86, by kernel_rfl, rfl, rfl, by decide +kernel, by kernel_rfl⟩
theorem box_Empty.den (F : FnE) (K : Nat) (a0_0 : Int) (a0_1 : Int) (a0_2 : Int) (a0_3 : Int) : Sy.den F K box_Empty.t [] [.int a0_0, .int a0_1, .int a0_2, .int a0_3] = (box_Empty.f a0_0 a0_1 a0_2 a0_3).map box_Empty.rr.en := by
  unfold box_Empty.t box_Empty.f
  refine den_ite (b := (decide (a0_2 ≤ a0_0))) rfl ?_ ?_
  exact den_ret rfl
  exact den_ret rfl
theorem box_Empty.ok (F : FnE) (K : Nat) (ps r : List PD) (h : box_Empty.app ps = some r) : Sy.den F K box_Empty.t [] ps = some r := by
  obtain ⟨a, rfl, h2⟩ := app_ok (ra := box_Empty.ra) (rr := box_Empty.rr) (f := fun x => box_Empty.f x.1 x.2.1 x.2.2.1 x.2.2.2) h
  rw [← h2]
  exact box_Empty.den F K (a.1) (a.2.1) (a.2.2.1) (a.2.2.2)
noncomputable def l86 (K : Nat) : List (Nat × App) := (86, box_Empty.app) :: l41 K
theorem gd86 (K : Nat) : Sy.Good Try.prog fns (mkF (l86 K)) := good_cons (K := K) box_Empty.is rfl (by kernel_rfl) (by decide +kernel) envOk relOk relNp mix (gd41 K) noExt_ok (box_Empty.ok _ K)
/-! ### box_Meet: function 89 -/
noncomputable def box_Meet.body : Code := Try.f89.body.getD .skip
noncomputable def box_Meet.sg : List S1 := [(.agg [.i, .i, .i, .i]), (.agg [.i, .i, .i, .i])]
noncomputable def box_Meet.sh : Sh := (.one (.agg [.i, .i, .i, .i]))
noncomputable def box_Meet.cf : Cfg := ⟨env, Try.f89.ntmps, Try.f89.results.toList, some box_Meet.sh, rel, [], [], noExt⟩
noncomputable def box_Meet.t : Tree := (.ask 86 [(.ex (.mx (.va 0) (.va 4))), (.ex (.mx (.va 1) (.va 5))), (.ex (.mn (.va 2) (.va 6))), (.ex (.mn (.va 3) (.va 7)))] [.b] (.ite (.va 8) (.ret [(.ex (.nu 0)), (.ex (.nu 0)), (.ex (.nu 0)), (.ex (.nu 0))]) (.ret [(.ex (.mx (.va 0) (.va 4))), (.ex (.mx (.va 1) (.va 5))), (.ex (.mn (.va 2) (.va 6))), (.ex (.mn (.va 3) (.va 7)))])))
noncomputable def box_Meet.ra : Rw (Int × Int × Int × Int × Int × Int × Int × Int) := (rwP rwI (rwP rwI (rwP rwI (rwP rwI (rwP rwI (rwP rwI (rwP rwI rwI)))))))
noncomputable def box_Meet.rr : Rw (Int × Int × Int × Int) := (rwP rwI (rwP rwI (rwP rwI rwI)))
theorem box_Meet.rr_en (r : Int × Int × Int × Int) : box_Meet.rr.en r = [.int r.1, .int r.2.1, .int r.2.2.1, .int r.2.2.2] := rfl
noncomputable def box_Meet.f (a0_0 : Int) (a0_1 : Int) (a0_2 : Int) (a0_3 : Int) (a1_0 : Int) (a1_1 : Int) (a1_2 : Int) (a1_3 : Int) : Option (Int × Int × Int × Int) := ((box_Empty.f (mxi a0_0 a1_0) (mxi a0_1 a1_1) (mni a0_2 a1_2) (mni a0_3 a1_3)).bind fun b0 => (if b0 = true then some (0, 0, 0, 0) else some ((mxi a0_0 a1_0), (mxi a0_1 a1_1), (mni a0_2 a1_2), (mni a0_3 a1_3))))
noncomputable def box_Meet.app : App := fun ps => (box_Meet.ra.de ps).bind fun x => (box_Meet.f x.1 x.2.1 x.2.2.1 x.2.2.2.1 x.2.2.2.2.1 x.2.2.2.2.2.1 x.2.2.2.2.2.2.1 x.2.2.2.2.2.2.2).map box_Meet.rr.en
theorem box_Meet.ap (a0_0 : Int) (a0_1 : Int) (a0_2 : Int) (a0_3 : Int) (a1_0 : Int) (a1_1 : Int) (a1_2 : Int) (a1_3 : Int) : box_Meet.app [.int a0_0, .int a0_1, .int a0_2, .int a0_3, .int a1_0, .int a1_1, .int a1_2, .int a1_3] = (box_Meet.f a0_0 a0_1 a0_2 a0_3 a1_0 a1_1 a1_2 a1_3).map box_Meet.rr.en := app_ap box_Meet.ra box_Meet.rr (fun x => box_Meet.f x.1 x.2.1 x.2.2.1 x.2.2.2.1 x.2.2.2.2.1 x.2.2.2.2.2.1 x.2.2.2.2.2.2.1 x.2.2.2.2.2.2.2) (a0_0, a0_1, a0_2, a0_3, a1_0, a1_1, a1_2, a1_3)
theorem box_Meet.is : FnIs Try.prog 89 (.init box_Meet.sg) box_Meet.t box_Meet.cf := ⟨Try.f89, box_Meet.body, 6000, Try.func89, by kernel_rfl, rfl, rfl, by decide +kernel, by kernel_rfl⟩
theorem box_Meet.den (F : FnE) (K : Nat) (h86 : F 86 = box_Empty.app) (a0_0 : Int) (a0_1 : Int) (a0_2 : Int) (a0_3 : Int) (a1_0 : Int) (a1_1 : Int) (a1_2 : Int) (a1_3 : Int) : Sy.den F K box_Meet.t [] [.int a0_0, .int a0_1, .int a0_2, .int a0_3, .int a1_0, .int a1_1, .int a1_2, .int a1_3] = (box_Meet.f a0_0 a0_1 a0_2 a0_3 a1_0 a1_1 a1_2 a1_3).map box_Meet.rr.en := by
  unfold box_Meet.t box_Meet.f
  refine den_ask (ps := [.int (mxi a0_0 a1_0), .int (mxi a0_1 a1_1), .int (mni a0_2 a1_2), .int (mni a0_3 a1_3)]) (rr := box_Empty.rr) (G := box_Empty.f (mxi a0_0 a1_0) (mxi a0_1 a1_1) (mni a0_2 a1_2) (mni a0_3 a1_3)) (by rw [h86]; exact box_Empty.ap (mxi a0_0 a1_0) (mxi a0_1 a1_1) (mni a0_2 a1_2) (mni a0_3 a1_3)) rfl rfl fun b0 => ?_
  show Sy.den F K _ _ [.int a0_0, .int a0_1, .int a0_2, .int a0_3, .int a1_0, .int a1_1, .int a1_2, .int a1_3, .bool b0] = _
  refine den_ite (b := b0) rfl ?_ ?_
  exact den_ret rfl
  exact den_ret rfl
theorem box_Meet.ok (F : FnE) (K : Nat) (h86 : F 86 = box_Empty.app) (ps r : List PD) (h : box_Meet.app ps = some r) : Sy.den F K box_Meet.t [] ps = some r := by
  obtain ⟨a, rfl, h2⟩ := app_ok (ra := box_Meet.ra) (rr := box_Meet.rr) (f := fun x => box_Meet.f x.1 x.2.1 x.2.2.1 x.2.2.2.1 x.2.2.2.2.1 x.2.2.2.2.2.1 x.2.2.2.2.2.2.1 x.2.2.2.2.2.2.2) h
  rw [← h2]
  exact box_Meet.den F K h86 (a.1) (a.2.1) (a.2.2.1) (a.2.2.2.1) (a.2.2.2.2.1) (a.2.2.2.2.2.1) (a.2.2.2.2.2.2.1) (a.2.2.2.2.2.2.2)
noncomputable def l89 (K : Nat) : List (Nat × App) := (89, box_Meet.app) :: l86 K
theorem gd89 (K : Nat) : Sy.Good Try.prog fns (mkF (l89 K)) := good_cons (K := K) box_Meet.is rfl (by kernel_rfl) (by decide +kernel) envOk relOk relNp mix (gd86 K) noExt_ok (box_Meet.ok _ K rfl)
/-! ### box_Apart: function 90 -/
noncomputable def box_Apart.body : Code := Try.f90.body.getD .skip
noncomputable def box_Apart.sg : List S1 := [(.agg [.i, .i, .i, .i]), (.agg [.i, .i, .i, .i])]
noncomputable def box_Apart.sh : Sh := (.one (.one .b))
noncomputable def box_Apart.cf : Cfg := ⟨env, Try.f90.ntmps, Try.f90.results.toList, some box_Apart.sh, rel, [], [], noExt⟩
noncomputable def box_Apart.t : Tree := (.ask 89 [(.ex (.va 0)), (.ex (.va 1)), (.ex (.va 2)), (.ex (.va 3)), (.ex (.va 4)), (.ex (.va 5)), (.ex (.va 6)), (.ex (.va 7))] [.i, .i, .i, .i] (.ask 86 [(.ex (.va 8)), (.ex (.va 9)), (.ex (.va 10)), (.ex (.va 11))] [.b] (.ret [(.bo (.va 12))])))
noncomputable def box_Apart.ra : Rw (Int × Int × Int × Int × Int × Int × Int × Int) := (rwP rwI (rwP rwI (rwP rwI (rwP rwI (rwP rwI (rwP rwI (rwP rwI rwI)))))))
noncomputable def box_Apart.rr : Rw (Bool) := rwB
theorem box_Apart.rr_en (r : Bool) : box_Apart.rr.en r = [.bool r] := rfl
noncomputable def box_Apart.f (a0_0 : Int) (a0_1 : Int) (a0_2 : Int) (a0_3 : Int) (a1_0 : Int) (a1_1 : Int) (a1_2 : Int) (a1_3 : Int) : Option (Bool) := ((box_Meet.f a0_0 a0_1 a0_2 a0_3 a1_0 a1_1 a1_2 a1_3).bind fun b0 => ((box_Empty.f b0.1 b0.2.1 b0.2.2.1 b0.2.2.2).bind fun b1 => some b1))
noncomputable def box_Apart.app : App := fun ps => (box_Apart.ra.de ps).bind fun x => (box_Apart.f x.1 x.2.1 x.2.2.1 x.2.2.2.1 x.2.2.2.2.1 x.2.2.2.2.2.1 x.2.2.2.2.2.2.1 x.2.2.2.2.2.2.2).map box_Apart.rr.en
theorem box_Apart.ap (a0_0 : Int) (a0_1 : Int) (a0_2 : Int) (a0_3 : Int) (a1_0 : Int) (a1_1 : Int) (a1_2 : Int) (a1_3 : Int) : box_Apart.app [.int a0_0, .int a0_1, .int a0_2, .int a0_3, .int a1_0, .int a1_1, .int a1_2, .int a1_3] = (box_Apart.f a0_0 a0_1 a0_2 a0_3 a1_0 a1_1 a1_2 a1_3).map box_Apart.rr.en := app_ap box_Apart.ra box_Apart.rr (fun x => box_Apart.f x.1 x.2.1 x.2.2.1 x.2.2.2.1 x.2.2.2.2.1 x.2.2.2.2.2.1 x.2.2.2.2.2.2.1 x.2.2.2.2.2.2.2) (a0_0, a0_1, a0_2, a0_3, a1_0, a1_1, a1_2, a1_3)
theorem box_Apart.is : FnIs Try.prog 90 (.init box_Apart.sg) box_Apart.t box_Apart.cf := ⟨Try.f90, box_Apart.body, 6000, Try.func90, by kernel_rfl, rfl, rfl, by decide +kernel, by kernel_rfl⟩
theorem box_Apart.den (F : FnE) (K : Nat) (h86 : F 86 = box_Empty.app) (h89 : F 89 = box_Meet.app) (a0_0 : Int) (a0_1 : Int) (a0_2 : Int) (a0_3 : Int) (a1_0 : Int) (a1_1 : Int) (a1_2 : Int) (a1_3 : Int) : Sy.den F K box_Apart.t [] [.int a0_0, .int a0_1, .int a0_2, .int a0_3, .int a1_0, .int a1_1, .int a1_2, .int a1_3] = (box_Apart.f a0_0 a0_1 a0_2 a0_3 a1_0 a1_1 a1_2 a1_3).map box_Apart.rr.en := by
  unfold box_Apart.t box_Apart.f
  refine den_ask (ps := [.int a0_0, .int a0_1, .int a0_2, .int a0_3, .int a1_0, .int a1_1, .int a1_2, .int a1_3]) (rr := box_Meet.rr) (G := box_Meet.f a0_0 a0_1 a0_2 a0_3 a1_0 a1_1 a1_2 a1_3) (by rw [h89]; exact box_Meet.ap a0_0 a0_1 a0_2 a0_3 a1_0 a1_1 a1_2 a1_3) rfl rfl fun b0 => ?_
  show Sy.den F K _ _ [.int a0_0, .int a0_1, .int a0_2, .int a0_3, .int a1_0, .int a1_1, .int a1_2, .int a1_3, .int b0.1, .int b0.2.1, .int b0.2.2.1, .int b0.2.2.2] = _
  refine den_ask (ps := [.int b0.1, .int b0.2.1, .int b0.2.2.1, .int b0.2.2.2]) (rr := box_Empty.rr) (G := box_Empty.f b0.1 b0.2.1 b0.2.2.1 b0.2.2.2) (by rw [h86]; exact box_Empty.ap b0.1 b0.2.1 b0.2.2.1 b0.2.2.2) rfl rfl fun b1 => ?_
  show Sy.den F K _ _ [.int a0_0, .int a0_1, .int a0_2, .int a0_3, .int a1_0, .int a1_1, .int a1_2, .int a1_3, .int b0.1, .int b0.2.1, .int b0.2.2.1, .int b0.2.2.2, .bool b1] = _
  exact den_ret rfl
theorem box_Apart.ok (F : FnE) (K : Nat) (h86 : F 86 = box_Empty.app) (h89 : F 89 = box_Meet.app) (ps r : List PD) (h : box_Apart.app ps = some r) : Sy.den F K box_Apart.t [] ps = some r := by
  obtain ⟨a, rfl, h2⟩ := app_ok (ra := box_Apart.ra) (rr := box_Apart.rr) (f := fun x => box_Apart.f x.1 x.2.1 x.2.2.1 x.2.2.2.1 x.2.2.2.2.1 x.2.2.2.2.2.1 x.2.2.2.2.2.2.1 x.2.2.2.2.2.2.2) h
  rw [← h2]
  exact box_Apart.den F K h86 h89 (a.1) (a.2.1) (a.2.2.1) (a.2.2.2.1) (a.2.2.2.2.1) (a.2.2.2.2.2.1) (a.2.2.2.2.2.2.1) (a.2.2.2.2.2.2.2)
noncomputable def l90 (K : Nat) : List (Nat × App) := (90, box_Apart.app) :: l89 K
theorem gd90 (K : Nat) : Sy.Good Try.prog fns (mkF (l90 K)) := good_cons (K := K) box_Apart.is rfl (by kernel_rfl) (by decide +kernel) envOk relOk relNp mix (gd89 K) noExt_ok (box_Apart.ok _ K rfl rfl)
/-! ### face_On: function 53 -/
noncomputable def face_On.body : Code := Try.f53.body.getD .skip
noncomputable def face_On.sg : List S1 := [(.one (.l 77 10)), (.agg [.i, .i, .i, .i])]
noncomputable def face_On.sh : Sh := (.one (.one (.l 77 10)))
noncomputable def face_On.cf : Cfg := ⟨env, Try.f53.ntmps, Try.f53.results.toList, some face_On.sh, rel, [3], [((3, 390, 5), ⟨[], [], [(10, [(0, .i), (0, .i)]), (5, [(0, (.own 77 10))])], []⟩)], noExt⟩
noncomputable def face_On.b0 : Tree := (.ite (.lt (.va 5) (.lens [0] 0)) (.ite (.le (.nu 0) (.va 5)) (.get 0 (.va 5) [.i, .i, .i, .i, .i, .i, .i, .i, .i, .s] (.ask 90 [(.ex (.va 12)), (.ex (.va 13)), (.ex (.va 14)), (.ex (.va 15)), (.ex (.va 1)), (.ex (.va 2)), (.ex (.va 3)), (.ex (.va 4))] [.b] (.ite (.not (.va 17)) (.ite (.le (.lens [6] 1) (.nu cap1599289640401)) (.fix [(.va 6), (.row [(.ex (.va 7)), (.ex (.va 8)), (.ex (.va 9)), (.ex (.va 10)), (.ex (.va 11)), (.ex (.va 12)), (.ex (.va 13)), (.ex (.va 14)), (.ex (.va 15)), (.so (.va 16))])] 10 (.back 0 5 [(.ex (.add (.va 5) (.nu 1))), (.li 18)])) .bad) (.back 0 5 [(.ex (.add (.va 5) (.nu 1))), (.li 6)])))) .bad) (.fix [(.va 6)] 10 (.ret [(.li 7)])))
noncomputable def face_On.t : Tree := (.loop [(.ex (.nu 0)), (.nl 10)] [.i, (.l 77 10)] face_On.b0)
noncomputable def face_On.ra : Rw ((List (Int × Int × Int × Int × Int × Int × Int × Int × Int × ByteArray)) × Int × Int × Int × Int) := (rwP (rwL 77 10 rw_iiiiiiiiis rfl) (rwP rwI (rwP rwI (rwP rwI rwI))))
noncomputable def face_On.rr : Rw (List (Int × Int × Int × Int × Int × Int × Int × Int × Int × ByteArray)) := (rwL 77 10 rw_iiiiiiiiis rfl)
theorem face_On.rr_en (r : List (Int × Int × Int × Int × Int × Int × Int × Int × Int × ByteArray)) : face_On.rr.en r = [.lst 10 (r.map rw_iiiiiiiiis.en)] := rfl
noncomputable def face_On.l0 (p0 : List (Int × Int × Int × Int × Int × Int × Int × Int × Int × ByteArray)) (p1 : Int) (p2 : Int) (p3 : Int) (p4 : Int) : Nat → (Int) → (List (Int × Int × Int × Int × Int × Int × Int × Int × Int × ByteArray)) → Option (List (Int × Int × Int × Int × Int × Int × Int × Int × Int × ByteArray))
  | 0, _, _ => none
  | k + 1, x0, x1 => (if (decide (x0 < ((p0.length : Nat) : Int))) = true then (if (decide (0 ≤ x0)) = true then ((p0[(x0 : Int).toNat]?).bind fun b0 => ((box_Apart.f b0.2.2.2.2.2.1 b0.2.2.2.2.2.2.1 b0.2.2.2.2.2.2.2.1 b0.2.2.2.2.2.2.2.2.1 p1 p2 p3 p4).bind fun b1 => (if (!b1) = true then (if (decide (((x1.length + 1 : Nat) : Int) ≤ cap1599289640401)) = true then (face_On.l0 p0 p1 p2 p3 p4 k (wrap64 (x0 + 1)) (x1 ++ [(b0.1, b0.2.1, b0.2.2.1, b0.2.2.2.1, b0.2.2.2.2.1, b0.2.2.2.2.2.1, b0.2.2.2.2.2.2.1, b0.2.2.2.2.2.2.2.1, b0.2.2.2.2.2.2.2.2.1, b0.2.2.2.2.2.2.2.2.2)])) else none) else (face_On.l0 p0 p1 p2 p3 p4 k (wrap64 (x0 + 1)) x1)))) else none) else some x1)
noncomputable def face_On.f (K : Nat) (a0 : List (Int × Int × Int × Int × Int × Int × Int × Int × Int × ByteArray)) (a1_0 : Int) (a1_1 : Int) (a1_2 : Int) (a1_3 : Int) : Option (List (Int × Int × Int × Int × Int × Int × Int × Int × Int × ByteArray)) := (face_On.l0 a0 a1_0 a1_1 a1_2 a1_3 K 0 [])
noncomputable def face_On.app (K : Nat) : App := fun ps => (face_On.ra.de ps).bind fun x => (face_On.f K x.1 x.2.1 x.2.2.1 x.2.2.2.1 x.2.2.2.2).map face_On.rr.en
theorem face_On.ap (K : Nat) (a0 : List (Int × Int × Int × Int × Int × Int × Int × Int × Int × ByteArray)) (a1_0 : Int) (a1_1 : Int) (a1_2 : Int) (a1_3 : Int) : face_On.app K [.lst 10 (a0.map rw_iiiiiiiiis.en), .int a1_0, .int a1_1, .int a1_2, .int a1_3] = (face_On.f K a0 a1_0 a1_1 a1_2 a1_3).map face_On.rr.en := app_ap face_On.ra face_On.rr (fun x => face_On.f K x.1 x.2.1 x.2.2.1 x.2.2.2.1 x.2.2.2.2) (a0, a1_0, a1_1, a1_2, a1_3)
theorem face_On.is : FnIs Try.prog 53 (.init face_On.sg) face_On.t face_On.cf := ⟨Try.f53, face_On.body, 6000, Try.func53, by kernel_rfl, rfl, rfl, by decide +kernel, by kernel_rfl⟩
theorem face_On.l0_den (F : FnE) (K : Nat) (h90 : F 90 = box_Apart.app) (Js : List (List PD → Option (List PD))) (p0 : List (Int × Int × Int × Int × Int × Int × Int × Int × Int × ByteArray)) (p1 : Int) (p2 : Int) (p3 : Int) (p4 : Int) : ∀ (k : Nat) (x0 : Int) (x1 : List (Int × Int × Int × Int × Int × Int × Int × Int × Int × ByteArray)), iterF (fun J ρ' => den F K face_On.b0 (J :: Js) ρ') k [.lst 10 (p0.map rw_iiiiiiiiis.en), .int p1, .int p2, .int p3, .int p4, .int x0, .lst 10 (x1.map rw_iiiiiiiiis.en)] = (face_On.l0 p0 p1 p2 p3 p4 k x0 x1).map face_On.rr.en := by
  intro k
  induction k with
  | zero => intros; rfl
  | succ k ih =>
    intro x0 x1
    show Sy.den F K face_On.b0 (iterF (fun J ρ' => Sy.den F K face_On.b0 (J :: Js) ρ') k :: Js) [.lst 10 (p0.map rw_iiiiiiiiis.en), .int p1, .int p2, .int p3, .int p4, .int x0, .lst 10 (x1.map rw_iiiiiiiiis.en)] = _
    revert ih
    generalize iterF (fun J ρ' => Sy.den F K face_On.b0 (J :: Js) ρ') k = J0
    intro ih
    rw [face_On.l0]
    show Sy.den F K face_On.b0 _ [.lst 10 (p0.map rw_iiiiiiiiis.en), .int p1, .int p2, .int p3, .int p4, .int x0, .lst 10 (x1.map rw_iiiiiiiiis.en)] = _
    unfold face_On.b0
    refine den_ite (b := (decide (x0 < ((p0.length : Nat) : Int)))) (by simp only [pds, PC.pd, E.ev, B.ev, SE.ev, LE.rows, lensEv, kSl_eq, kPt_eq, ov_prop, List.getElem?_cons_zero, List.getElem?_cons_succ, List.length_map, Nat.add_zero, Nat.zero_add, Option.bind_some, Option.map_some, if_true, Subtype.eta, mxi, mni, List.map_append, List.map_cons, List.map_nil, List.cons_append, List.nil_append, List.append_nil]) ?_ ?_
    refine den_ite (b := (decide (0 ≤ x0))) rfl ?_ ?_
    refine den_get (L := p0) (rw := rw_iiiiiiiiis) rfl rfl rfl fun b0 => ?_
    show Sy.den F K _ _ [.lst 10 (p0.map rw_iiiiiiiiis.en), .int p1, .int p2, .int p3, .int p4, .int x0, .lst 10 (x1.map rw_iiiiiiiiis.en), .int b0.1, .int b0.2.1, .int b0.2.2.1, .int b0.2.2.2.1, .int b0.2.2.2.2.1, .int b0.2.2.2.2.2.1, .int b0.2.2.2.2.2.2.1, .int b0.2.2.2.2.2.2.2.1, .int b0.2.2.2.2.2.2.2.2.1, .str b0.2.2.2.2.2.2.2.2.2] = _
    refine den_ask (ps := [.int b0.2.2.2.2.2.1, .int b0.2.2.2.2.2.2.1, .int b0.2.2.2.2.2.2.2.1, .int b0.2.2.2.2.2.2.2.2.1, .int p1, .int p2, .int p3, .int p4]) (rr := box_Apart.rr) (G := box_Apart.f b0.2.2.2.2.2.1 b0.2.2.2.2.2.2.1 b0.2.2.2.2.2.2.2.1 b0.2.2.2.2.2.2.2.2.1 p1 p2 p3 p4) (by rw [h90]; exact box_Apart.ap b0.2.2.2.2.2.1 b0.2.2.2.2.2.2.1 b0.2.2.2.2.2.2.2.1 b0.2.2.2.2.2.2.2.2.1 p1 p2 p3 p4) rfl rfl fun b1 => ?_
    show Sy.den F K _ _ [.lst 10 (p0.map rw_iiiiiiiiis.en), .int p1, .int p2, .int p3, .int p4, .int x0, .lst 10 (x1.map rw_iiiiiiiiis.en), .int b0.1, .int b0.2.1, .int b0.2.2.1, .int b0.2.2.2.1, .int b0.2.2.2.2.1, .int b0.2.2.2.2.2.1, .int b0.2.2.2.2.2.2.1, .int b0.2.2.2.2.2.2.2.1, .int b0.2.2.2.2.2.2.2.2.1, .str b0.2.2.2.2.2.2.2.2.2, .bool b1] = _
    refine den_ite (b := (!b1)) rfl ?_ ?_
    refine den_ite (b := (decide (((x1.length + 1 : Nat) : Int) ≤ cap1599289640401))) (by simp only [pds, PC.pd, E.ev, B.ev, SE.ev, LE.rows, lensEv, kSl_eq, kPt_eq, ov_prop, List.getElem?_cons_zero, List.getElem?_cons_succ, List.length_map, Nat.add_zero, Nat.zero_add, Option.bind_some, Option.map_some, if_true, Subtype.eta, mxi, mni, List.map_append, List.map_cons, List.map_nil, List.cons_append, List.nil_append, List.append_nil]) ?_ ?_
    refine den_fix (rows := List.map rw_iiiiiiiiis.en (x1 ++ [(b0.1, b0.2.1, b0.2.2.1, b0.2.2.2.1, b0.2.2.2.2.1, b0.2.2.2.2.2.1, b0.2.2.2.2.2.2.1, b0.2.2.2.2.2.2.2.1, b0.2.2.2.2.2.2.2.2.1, b0.2.2.2.2.2.2.2.2.2)])) (by simp only [pds, PC.pd, E.ev, B.ev, SE.ev, LE.rows, lensEv, kSl_eq, kPt_eq, ov_prop, List.getElem?_cons_zero, List.getElem?_cons_succ, List.length_map, Nat.add_zero, Nat.zero_add, Option.bind_some, Option.map_some, if_true, Subtype.eta, mxi, mni, List.map_append, List.map_cons, List.map_nil, List.cons_append, List.nil_append, List.append_nil, rw_iiiiiiiiis_en]) ?_
    show Sy.den F K _ _ [.lst 10 (p0.map rw_iiiiiiiiis.en), .int p1, .int p2, .int p3, .int p4, .int x0, .lst 10 (x1.map rw_iiiiiiiiis.en), .int b0.1, .int b0.2.1, .int b0.2.2.1, .int b0.2.2.2.1, .int b0.2.2.2.2.1, .int b0.2.2.2.2.2.1, .int b0.2.2.2.2.2.2.1, .int b0.2.2.2.2.2.2.2.1, .int b0.2.2.2.2.2.2.2.2.1, .str b0.2.2.2.2.2.2.2.2.2, .bool b1, .lst 10 ((x1 ++ [(b0.1, b0.2.1, b0.2.2.1, b0.2.2.2.1, b0.2.2.2.2.1, b0.2.2.2.2.2.1, b0.2.2.2.2.2.2.1, b0.2.2.2.2.2.2.2.1, b0.2.2.2.2.2.2.2.2.1, b0.2.2.2.2.2.2.2.2.2)]).map rw_iiiiiiiiis.en)] = _
    refine den_back (vs := [.int (wrap64 (x0 + 1)), .lst 10 ((x1 ++ [(b0.1, b0.2.1, b0.2.2.1, b0.2.2.2.1, b0.2.2.2.2.1, b0.2.2.2.2.2.1, b0.2.2.2.2.2.2.1, b0.2.2.2.2.2.2.2.1, b0.2.2.2.2.2.2.2.2.1, b0.2.2.2.2.2.2.2.2.2)]).map rw_iiiiiiiiis.en)]) (by simp only [pds, PC.pd, E.ev, B.ev, SE.ev, LE.rows, lensEv, kSl_eq, kPt_eq, ov_prop, List.getElem?_cons_zero, List.getElem?_cons_succ, List.length_map, Nat.add_zero, Nat.zero_add, Option.bind_some, Option.map_some, if_true, Subtype.eta, mxi, mni, List.map_append, List.map_cons, List.map_nil, List.cons_append, List.nil_append, List.append_nil]) rfl ?_
    exact ih (wrap64 (x0 + 1)) (x1 ++ [(b0.1, b0.2.1, b0.2.2.1, b0.2.2.2.1, b0.2.2.2.2.1, b0.2.2.2.2.2.1, b0.2.2.2.2.2.2.1, b0.2.2.2.2.2.2.2.1, b0.2.2.2.2.2.2.2.2.1, b0.2.2.2.2.2.2.2.2.2)])
    exact den_bad _ _ _ _ _
    refine den_back (vs := [.int (wrap64 (x0 + 1)), .lst 10 (x1.map rw_iiiiiiiiis.en)]) (by simp only [pds, PC.pd, E.ev, B.ev, SE.ev, LE.rows, lensEv, kSl_eq, kPt_eq, ov_prop, List.getElem?_cons_zero, List.getElem?_cons_succ, List.length_map, Nat.add_zero, Nat.zero_add, Option.bind_some, Option.map_some, if_true, Subtype.eta, mxi, mni, List.map_append, List.map_cons, List.map_nil, List.cons_append, List.nil_append, List.append_nil]) rfl ?_
    exact ih (wrap64 (x0 + 1)) x1
    exact den_bad _ _ _ _ _
    refine den_fix (rows := List.map rw_iiiiiiiiis.en x1) (by simp only [pds, PC.pd, E.ev, B.ev, SE.ev, LE.rows, lensEv, kSl_eq, kPt_eq, ov_prop, List.getElem?_cons_zero, List.getElem?_cons_succ, List.length_map, Nat.add_zero, Nat.zero_add, Option.bind_some, Option.map_some, if_true, Subtype.eta, mxi, mni, List.map_append, List.map_cons, List.map_nil, List.cons_append, List.nil_append, List.append_nil, rw_iiiiiiiiis_en]) ?_
    show Sy.den F K _ _ [.lst 10 (p0.map rw_iiiiiiiiis.en), .int p1, .int p2, .int p3, .int p4, .int x0, .lst 10 (x1.map rw_iiiiiiiiis.en), .lst 10 (x1.map rw_iiiiiiiiis.en)] = _
    exact den_ret (by simp only [pds, PC.pd, E.ev, B.ev, SE.ev, LE.rows, lensEv, kSl_eq, kPt_eq, ov_prop, List.getElem?_cons_zero, List.getElem?_cons_succ, List.length_map, Nat.add_zero, Nat.zero_add, Option.bind_some, Option.map_some, if_true, Subtype.eta, mxi, mni, List.map_append, List.map_cons, List.map_nil, List.cons_append, List.nil_append, List.append_nil, face_On.rr_en])
theorem face_On.den (F : FnE) (K : Nat) (h90 : F 90 = box_Apart.app) (a0 : List (Int × Int × Int × Int × Int × Int × Int × Int × Int × ByteArray)) (a1_0 : Int) (a1_1 : Int) (a1_2 : Int) (a1_3 : Int) : Sy.den F K face_On.t [] [.lst 10 (a0.map rw_iiiiiiiiis.en), .int a1_0, .int a1_1, .int a1_2, .int a1_3] = (face_On.f K a0 a1_0 a1_1 a1_2 a1_3).map face_On.rr.en := by
  unfold face_On.t face_On.f
  refine den_loop (vs := [.int 0, .lst 10 []]) (by simp only [pds, PC.pd, E.ev, B.ev, SE.ev, LE.rows, lensEv, kSl_eq, kPt_eq, ov_prop, List.getElem?_cons_zero, List.getElem?_cons_succ, List.length_map, Nat.add_zero, Nat.zero_add, Option.bind_some, Option.map_some, if_true, Subtype.eta, mxi, mni, List.map_append, List.map_cons, List.map_nil, List.cons_append, List.nil_append, List.append_nil]) ?_
  exact face_On.l0_den F K h90 [] a0 a1_0 a1_1 a1_2 a1_3 K 0 []
theorem face_On.ok (F : FnE) (K : Nat) (h90 : F 90 = box_Apart.app) (ps r : List PD) (h : face_On.app K ps = some r) : Sy.den F K face_On.t [] ps = some r := by
  obtain ⟨a, rfl, h2⟩ := app_ok (ra := face_On.ra) (rr := face_On.rr) (f := fun x => face_On.f K x.1 x.2.1 x.2.2.1 x.2.2.2.1 x.2.2.2.2) h
  rw [← h2]
  exact face_On.den F K h90 (a.1) (a.2.1) (a.2.2.1) (a.2.2.2.1) (a.2.2.2.2)
noncomputable def l53 (K : Nat) : List (Nat × App) := (53, face_On.app K) :: l90 K
theorem gd53 (K : Nat) : Sy.Good Try.prog fns (mkF (l53 K)) := good_cons (K := K) face_On.is rfl (by kernel_rfl) (by decide +kernel) envOk relOk relNp mix (gd90 K) noExt_ok (face_On.ok _ K rfl)
/-! ### place_FlipX: function 69 -/
noncomputable def place_FlipX.body : Code := Try.f69.body.getD .skip
noncomputable def place_FlipX.sg : List S1 := [(.one .i)]
noncomputable def place_FlipX.sh : Sh := (.one (.agg [.i, .i, .i]))
noncomputable def place_FlipX.cf : Cfg := ⟨env, Try.f69.ntmps, Try.f69.results.toList, some place_FlipX.sh, rel, [], [], noExt⟩
noncomputable def place_FlipX.t : Tree := (.ret [(.ex (.nu 4)), (.ex (.va 0)), (.ex (.nu 0))])
noncomputable def place_FlipX.ra : Rw (Int) := rwI
noncomputable def place_FlipX.rr : Rw (Int × Int × Int) := (rwP rwI (rwP rwI rwI))
theorem place_FlipX.rr_en (r : Int × Int × Int) : place_FlipX.rr.en r = [.int r.1, .int r.2.1, .int r.2.2] := rfl
noncomputable def place_FlipX.f (a0 : Int) : Option (Int × Int × Int) := some (4, a0, 0)
noncomputable def place_FlipX.app : App := fun ps => (place_FlipX.ra.de ps).bind fun x => (place_FlipX.f x).map place_FlipX.rr.en
theorem place_FlipX.ap (a0 : Int) : place_FlipX.app [.int a0] = (place_FlipX.f a0).map place_FlipX.rr.en := app_ap place_FlipX.ra place_FlipX.rr (fun x => place_FlipX.f x) (a0)
theorem place_FlipX.is : FnIs Try.prog 69 (.init place_FlipX.sg) place_FlipX.t place_FlipX.cf := ⟨Try.f69, place_FlipX.body, 6000, Try.func69, by kernel_rfl, rfl, rfl, by decide +kernel, by kernel_rfl⟩
theorem place_FlipX.den (F : FnE) (K : Nat) (a0 : Int) : Sy.den F K place_FlipX.t [] [.int a0] = (place_FlipX.f a0).map place_FlipX.rr.en := by
  unfold place_FlipX.t place_FlipX.f
  exact den_ret rfl
theorem place_FlipX.ok (F : FnE) (K : Nat) (ps r : List PD) (h : place_FlipX.app ps = some r) : Sy.den F K place_FlipX.t [] ps = some r := by
  obtain ⟨a, rfl, h2⟩ := app_ok (ra := place_FlipX.ra) (rr := place_FlipX.rr) (f := fun x => place_FlipX.f x) h
  rw [← h2]
  exact place_FlipX.den F K a
noncomputable def l69 (K : Nat) : List (Nat × App) := (69, place_FlipX.app) :: l53 K
theorem gd69 (K : Nat) : Sy.Good Try.prog fns (mkF (l69 K)) := good_cons (K := K) place_FlipX.is rfl (by kernel_rfl) (by decide +kernel) envOk relOk relNp mix (gd53 K) noExt_ok (place_FlipX.ok _ K)
/-! ### turn_Do: function 100 -/
noncomputable def turn_Do.body : Code := Try.f100.body.getD .skip
noncomputable def turn_Do.sg : List S1 := [(.one .i), (.agg [.i, .i])]
noncomputable def turn_Do.sh : Sh := (.one (.agg [.i, .i]))
noncomputable def turn_Do.cf : Cfg := ⟨env, Try.f100.ntmps, Try.f100.results.toList, some turn_Do.sh, rel, [4], [((4, 772, 4), ⟨[], [], [(13, [(0, .i)])], [(4, [(0, .i), (1, .i)])]⟩), ((4, 452, 4), ⟨[], [], [(13, [(0, .i)])], [(4, [(0, .i), (1, .i)])]⟩)], noExt⟩
noncomputable def turn_Do.b1 : Tree := (.ite (.lt (.va 4) (.and (.va 0) (.nu 3))) (.back 0 4 [(.ex (.add (.va 4) (.nu 1))), (.ex (.sub (.nu 0) (.va 6))), (.ex (.va 5))]) (.ret [(.ex (.va 5)), (.ex (.va 6))]))
noncomputable def turn_Do.b0 : Tree := (.ite (.lt (.va 4) (.and (.va 0) (.nu 3))) (.back 0 4 [(.ex (.add (.va 4) (.nu 1))), (.ex (.sub (.nu 0) (.va 6))), (.ex (.va 5))]) (.ret [(.ex (.va 5)), (.ex (.va 6))]))
noncomputable def turn_Do.t : Tree := (.ask 84 [(.ex (.va 0))] [.b] (.ite (.va 3) (.loop [(.ex (.nu 0)), (.ex (.sub (.nu 0) (.va 1))), (.ex (.va 2))] [.i, .i, .i] turn_Do.b0) (.loop [(.ex (.nu 0)), (.ex (.va 1)), (.ex (.va 2))] [.i, .i, .i] turn_Do.b1)))
noncomputable def turn_Do.ra : Rw (Int × Int × Int) := (rwP rwI (rwP rwI rwI))
noncomputable def turn_Do.rr : Rw (Int × Int) := (rwP rwI rwI)
theorem turn_Do.rr_en (r : Int × Int) : turn_Do.rr.en r = [.int r.1, .int r.2] := rfl
noncomputable def turn_Do.l1 (p0 : Int) : Nat → (Int) → (Int) → (Int) → Option (Int × Int)
  | 0, _, _, _ => none
  | k + 1, x0, x1, x2 => (if (decide (x0 < (Go.bits .and .i64 p0 3))) = true then (turn_Do.l1 p0 k (wrap64 (x0 + 1)) (wrap64 (0 - x2)) x1) else some (x1, x2))
noncomputable def turn_Do.l0 (p0 : Int) : Nat → (Int) → (Int) → (Int) → Option (Int × Int)
  | 0, _, _, _ => none
  | k + 1, x0, x1, x2 => (if (decide (x0 < (Go.bits .and .i64 p0 3))) = true then (turn_Do.l0 p0 k (wrap64 (x0 + 1)) (wrap64 (0 - x2)) x1) else some (x1, x2))
noncomputable def turn_Do.f (K : Nat) (a0 : Int) (a1_0 : Int) (a1_1 : Int) : Option (Int × Int) := ((turn_Mirrors.f a0).bind fun b0 => (if b0 = true then (turn_Do.l0 a0 K 0 (wrap64 (0 - a1_0)) a1_1) else (turn_Do.l1 a0 K 0 a1_0 a1_1)))
noncomputable def turn_Do.app (K : Nat) : App := fun ps => (turn_Do.ra.de ps).bind fun x => (turn_Do.f K x.1 x.2.1 x.2.2).map turn_Do.rr.en
theorem turn_Do.ap (K : Nat) (a0 : Int) (a1_0 : Int) (a1_1 : Int) : turn_Do.app K [.int a0, .int a1_0, .int a1_1] = (turn_Do.f K a0 a1_0 a1_1).map turn_Do.rr.en := app_ap turn_Do.ra turn_Do.rr (fun x => turn_Do.f K x.1 x.2.1 x.2.2) (a0, a1_0, a1_1)
theorem turn_Do.is : FnIs Try.prog 100 (.init turn_Do.sg) turn_Do.t turn_Do.cf := ⟨Try.f100, turn_Do.body, 6000, Try.func100, by kernel_rfl, rfl, rfl, by decide +kernel, by kernel_rfl⟩
theorem turn_Do.l1_den (F : FnE) (K : Nat) (h84 : F 84 = turn_Mirrors.app) (Js : List (List PD → Option (List PD))) (p0 : Int) (p1 : Int) (p2 : Int) (p3 : Bool) : ∀ (k : Nat) (x0 : Int) (x1 : Int) (x2 : Int), iterF (fun J ρ' => den F K turn_Do.b1 (J :: Js) ρ') k [.int p0, .int p1, .int p2, .bool p3, .int x0, .int x1, .int x2] = (turn_Do.l1 p0 k x0 x1 x2).map turn_Do.rr.en := by
  intro k
  induction k with
  | zero => intros; rfl
  | succ k ih =>
    intro x0 x1 x2
    show Sy.den F K turn_Do.b1 (iterF (fun J ρ' => Sy.den F K turn_Do.b1 (J :: Js) ρ') k :: Js) [.int p0, .int p1, .int p2, .bool p3, .int x0, .int x1, .int x2] = _
    revert ih
    generalize iterF (fun J ρ' => Sy.den F K turn_Do.b1 (J :: Js) ρ') k = J1
    intro ih
    rw [turn_Do.l1]
    show Sy.den F K turn_Do.b1 _ [.int p0, .int p1, .int p2, .bool p3, .int x0, .int x1, .int x2] = _
    unfold turn_Do.b1
    refine den_ite (b := (decide (x0 < (Go.bits .and .i64 p0 3)))) rfl ?_ ?_
    refine den_back (vs := [.int (wrap64 (x0 + 1)), .int (wrap64 (0 - x2)), .int x1]) rfl rfl ?_
    exact ih (wrap64 (x0 + 1)) (wrap64 (0 - x2)) x1
    exact den_ret rfl
theorem turn_Do.l0_den (F : FnE) (K : Nat) (h84 : F 84 = turn_Mirrors.app) (Js : List (List PD → Option (List PD))) (p0 : Int) (p1 : Int) (p2 : Int) (p3 : Bool) : ∀ (k : Nat) (x0 : Int) (x1 : Int) (x2 : Int), iterF (fun J ρ' => den F K turn_Do.b0 (J :: Js) ρ') k [.int p0, .int p1, .int p2, .bool p3, .int x0, .int x1, .int x2] = (turn_Do.l0 p0 k x0 x1 x2).map turn_Do.rr.en := by
  intro k
  induction k with
  | zero => intros; rfl
  | succ k ih =>
    intro x0 x1 x2
    show Sy.den F K turn_Do.b0 (iterF (fun J ρ' => Sy.den F K turn_Do.b0 (J :: Js) ρ') k :: Js) [.int p0, .int p1, .int p2, .bool p3, .int x0, .int x1, .int x2] = _
    revert ih
    generalize iterF (fun J ρ' => Sy.den F K turn_Do.b0 (J :: Js) ρ') k = J0
    intro ih
    rw [turn_Do.l0]
    show Sy.den F K turn_Do.b0 _ [.int p0, .int p1, .int p2, .bool p3, .int x0, .int x1, .int x2] = _
    unfold turn_Do.b0
    refine den_ite (b := (decide (x0 < (Go.bits .and .i64 p0 3)))) rfl ?_ ?_
    refine den_back (vs := [.int (wrap64 (x0 + 1)), .int (wrap64 (0 - x2)), .int x1]) rfl rfl ?_
    exact ih (wrap64 (x0 + 1)) (wrap64 (0 - x2)) x1
    exact den_ret rfl
theorem turn_Do.den (F : FnE) (K : Nat) (h84 : F 84 = turn_Mirrors.app) (a0 : Int) (a1_0 : Int) (a1_1 : Int) : Sy.den F K turn_Do.t [] [.int a0, .int a1_0, .int a1_1] = (turn_Do.f K a0 a1_0 a1_1).map turn_Do.rr.en := by
  unfold turn_Do.t turn_Do.f
  refine den_ask (ps := [.int a0]) (rr := turn_Mirrors.rr) (G := turn_Mirrors.f a0) (by rw [h84]; exact turn_Mirrors.ap a0) rfl rfl fun b0 => ?_
  show Sy.den F K _ _ [.int a0, .int a1_0, .int a1_1, .bool b0] = _
  refine den_ite (b := b0) rfl ?_ ?_
  refine den_loop (vs := [.int 0, .int (wrap64 (0 - a1_0)), .int a1_1]) rfl ?_
  exact turn_Do.l0_den F K h84 [] a0 a1_0 a1_1 b0 K 0 (wrap64 (0 - a1_0)) a1_1
  refine den_loop (vs := [.int 0, .int a1_0, .int a1_1]) rfl ?_
  exact turn_Do.l1_den F K h84 [] a0 a1_0 a1_1 b0 K 0 a1_0 a1_1
theorem turn_Do.ok (F : FnE) (K : Nat) (h84 : F 84 = turn_Mirrors.app) (ps r : List PD) (h : turn_Do.app K ps = some r) : Sy.den F K turn_Do.t [] ps = some r := by
  obtain ⟨a, rfl, h2⟩ := app_ok (ra := turn_Do.ra) (rr := turn_Do.rr) (f := fun x => turn_Do.f K x.1 x.2.1 x.2.2) h
  rw [← h2]
  exact turn_Do.den F K h84 (a.1) (a.2.1) (a.2.2)
noncomputable def l100 (K : Nat) : List (Nat × App) := (100, turn_Do.app K) :: l69 K
theorem gd100 (K : Nat) : Sy.Good Try.prog fns (mkF (l100 K)) := good_cons (K := K) turn_Do.is rfl (by kernel_rfl) (by decide +kernel) envOk relOk relNp mix (gd69 K) noExt_ok (turn_Do.ok _ K rfl)
/-! ### place_Do: function 97 -/
noncomputable def place_Do.body : Code := Try.f97.body.getD .skip
noncomputable def place_Do.sg : List S1 := [(.agg [.i, .i, .i]), (.agg [.i, .i])]
noncomputable def place_Do.sh : Sh := (.one (.agg [.i, .i]))
noncomputable def place_Do.cf : Cfg := ⟨env, Try.f97.ntmps, Try.f97.results.toList, some place_Do.sh, rel, [], [], noExt⟩
noncomputable def place_Do.t : Tree := (.ask 100 [(.ex (.va 0)), (.ex (.va 3)), (.ex (.va 4))] [.i, .i] (.ret [(.ex (.add (.va 5) (.va 1))), (.ex (.add (.va 6) (.va 2)))]))
noncomputable def place_Do.ra : Rw (Int × Int × Int × Int × Int) := (rwP rwI (rwP rwI (rwP rwI (rwP rwI rwI))))
noncomputable def place_Do.rr : Rw (Int × Int) := (rwP rwI rwI)
theorem place_Do.rr_en (r : Int × Int) : place_Do.rr.en r = [.int r.1, .int r.2] := rfl
noncomputable def place_Do.f (K : Nat) (a0_0 : Int) (a0_1 : Int) (a0_2 : Int) (a1_0 : Int) (a1_1 : Int) : Option (Int × Int) := ((turn_Do.f K a0_0 a1_0 a1_1).bind fun b0 => some ((wrap64 (b0.1 + a0_1)), (wrap64 (b0.2 + a0_2))))
noncomputable def place_Do.app (K : Nat) : App := fun ps => (place_Do.ra.de ps).bind fun x => (place_Do.f K x.1 x.2.1 x.2.2.1 x.2.2.2.1 x.2.2.2.2).map place_Do.rr.en
theorem place_Do.ap (K : Nat) (a0_0 : Int) (a0_1 : Int) (a0_2 : Int) (a1_0 : Int) (a1_1 : Int) : place_Do.app K [.int a0_0, .int a0_1, .int a0_2, .int a1_0, .int a1_1] = (place_Do.f K a0_0 a0_1 a0_2 a1_0 a1_1).map place_Do.rr.en := app_ap place_Do.ra place_Do.rr (fun x => place_Do.f K x.1 x.2.1 x.2.2.1 x.2.2.2.1 x.2.2.2.2) (a0_0, a0_1, a0_2, a1_0, a1_1)
theorem place_Do.is : FnIs Try.prog 97 (.init place_Do.sg) place_Do.t place_Do.cf := ⟨Try.f97, place_Do.body, 6000, Try.func97, by kernel_rfl, rfl, rfl, by decide +kernel, by kernel_rfl⟩
theorem place_Do.den (F : FnE) (K : Nat) (h100 : F 100 = turn_Do.app K) (a0_0 : Int) (a0_1 : Int) (a0_2 : Int) (a1_0 : Int) (a1_1 : Int) : Sy.den F K place_Do.t [] [.int a0_0, .int a0_1, .int a0_2, .int a1_0, .int a1_1] = (place_Do.f K a0_0 a0_1 a0_2 a1_0 a1_1).map place_Do.rr.en := by
  unfold place_Do.t place_Do.f
  refine den_ask (ps := [.int a0_0, .int a1_0, .int a1_1]) (rr := turn_Do.rr) (G := turn_Do.f K a0_0 a1_0 a1_1) (by rw [h100]; exact turn_Do.ap K a0_0 a1_0 a1_1) rfl rfl fun b0 => ?_
  show Sy.den F K _ _ [.int a0_0, .int a0_1, .int a0_2, .int a1_0, .int a1_1, .int b0.1, .int b0.2] = _
  exact den_ret rfl
theorem place_Do.ok (F : FnE) (K : Nat) (h100 : F 100 = turn_Do.app K) (ps r : List PD) (h : place_Do.app K ps = some r) : Sy.den F K place_Do.t [] ps = some r := by
  obtain ⟨a, rfl, h2⟩ := app_ok (ra := place_Do.ra) (rr := place_Do.rr) (f := fun x => place_Do.f K x.1 x.2.1 x.2.2.1 x.2.2.2.1 x.2.2.2.2) h
  rw [← h2]
  exact place_Do.den F K h100 (a.1) (a.2.1) (a.2.2.1) (a.2.2.2.1) (a.2.2.2.2)
noncomputable def l97 (K : Nat) : List (Nat × App) := (97, place_Do.app K) :: l100 K
theorem gd97 (K : Nat) : Sy.Good Try.prog fns (mkF (l97 K)) := good_cons (K := K) place_Do.is rfl (by kernel_rfl) (by decide +kernel) envOk relOk relNp mix (gd100 K) noExt_ok (place_Do.ok _ K rfl)
/-! ### turn_Then: function 98 -/
noncomputable def turn_Then.body : Code := Try.f98.body.getD .skip
noncomputable def turn_Then.sg : List S1 := [(.one .i), (.one .i)]
noncomputable def turn_Then.sh : Sh := (.one (.one .i))
noncomputable def turn_Then.cf : Cfg := ⟨env, Try.f98.ntmps, Try.f98.results.toList, some turn_Then.sh, rel, [], [], noExt⟩
noncomputable def turn_Then.t : Tree := (.ask 84 [(.ex (.va 1))] [.b] (.ite (.va 2) (.ret [(.ex (.or (.and (.sub (.va 1) (.va 0)) (.nu 3)) (.and (.xor (.va 0) (.va 1)) (.nu 4))))]) (.ret [(.ex (.or (.and (.add (.va 1) (.va 0)) (.nu 3)) (.and (.xor (.va 0) (.va 1)) (.nu 4))))])))
noncomputable def turn_Then.ra : Rw (Int × Int) := (rwP rwI rwI)
noncomputable def turn_Then.rr : Rw (Int) := rwI
theorem turn_Then.rr_en (r : Int) : turn_Then.rr.en r = [.int r] := rfl
noncomputable def turn_Then.f (a0 : Int) (a1 : Int) : Option (Int) := ((turn_Mirrors.f a1).bind fun b0 => (if b0 = true then some (Go.bits .or .i64 (Go.bits .and .i64 (wrap64 (a1 - a0)) 3) (Go.bits .and .i64 (Go.bits .xor .i64 a0 a1) 4)) else some (Go.bits .or .i64 (Go.bits .and .i64 (wrap64 (a1 + a0)) 3) (Go.bits .and .i64 (Go.bits .xor .i64 a0 a1) 4))))
noncomputable def turn_Then.app : App := fun ps => (turn_Then.ra.de ps).bind fun x => (turn_Then.f x.1 x.2).map turn_Then.rr.en
theorem turn_Then.ap (a0 : Int) (a1 : Int) : turn_Then.app [.int a0, .int a1] = (turn_Then.f a0 a1).map turn_Then.rr.en := app_ap turn_Then.ra turn_Then.rr (fun x => turn_Then.f x.1 x.2) (a0, a1)
theorem turn_Then.is : FnIs Try.prog 98 (.init turn_Then.sg) turn_Then.t turn_Then.cf := ⟨Try.f98, turn_Then.body, 6000, Try.func98, by kernel_rfl, rfl, rfl, by decide +kernel, by kernel_rfl⟩
theorem turn_Then.den (F : FnE) (K : Nat) (h84 : F 84 = turn_Mirrors.app) (a0 : Int) (a1 : Int) : Sy.den F K turn_Then.t [] [.int a0, .int a1] = (turn_Then.f a0 a1).map turn_Then.rr.en := by
  unfold turn_Then.t turn_Then.f
  refine den_ask (ps := [.int a1]) (rr := turn_Mirrors.rr) (G := turn_Mirrors.f a1) (by rw [h84]; exact turn_Mirrors.ap a1) rfl rfl fun b0 => ?_
  show Sy.den F K _ _ [.int a0, .int a1, .bool b0] = _
  refine den_ite (b := b0) rfl ?_ ?_
  exact den_ret rfl
  exact den_ret rfl
theorem turn_Then.ok (F : FnE) (K : Nat) (h84 : F 84 = turn_Mirrors.app) (ps r : List PD) (h : turn_Then.app ps = some r) : Sy.den F K turn_Then.t [] ps = some r := by
  obtain ⟨a, rfl, h2⟩ := app_ok (ra := turn_Then.ra) (rr := turn_Then.rr) (f := fun x => turn_Then.f x.1 x.2) h
  rw [← h2]
  exact turn_Then.den F K h84 (a.1) (a.2)
noncomputable def l98 (K : Nat) : List (Nat × App) := (98, turn_Then.app) :: l97 K
theorem gd98 (K : Nat) : Sy.Good Try.prog fns (mkF (l98 K)) := good_cons (K := K) turn_Then.is rfl (by kernel_rfl) (by decide +kernel) envOk relOk relNp mix (gd97 K) noExt_ok (turn_Then.ok _ K rfl)
/-! ### place_Then: function 80 -/
noncomputable def place_Then.body : Code := Try.f80.body.getD .skip
noncomputable def place_Then.sg : List S1 := [(.agg [.i, .i, .i]), (.agg [.i, .i, .i])]
noncomputable def place_Then.sh : Sh := (.one (.agg [.i, .i, .i]))
noncomputable def place_Then.cf : Cfg := ⟨env, Try.f80.ntmps, Try.f80.results.toList, some place_Then.sh, rel, [], [], noExt⟩
noncomputable def place_Then.t : Tree := (.ask 97 [(.ex (.va 3)), (.ex (.va 4)), (.ex (.va 5)), (.ex (.va 1)), (.ex (.va 2))] [.i, .i] (.ask 98 [(.ex (.va 0)), (.ex (.va 3))] [.i] (.ret [(.ex (.va 8)), (.ex (.va 6)), (.ex (.va 7))])))
noncomputable def place_Then.ra : Rw (Int × Int × Int × Int × Int × Int) := (rwP rwI (rwP rwI (rwP rwI (rwP rwI (rwP rwI rwI)))))
noncomputable def place_Then.rr : Rw (Int × Int × Int) := (rwP rwI (rwP rwI rwI))
theorem place_Then.rr_en (r : Int × Int × Int) : place_Then.rr.en r = [.int r.1, .int r.2.1, .int r.2.2] := rfl
noncomputable def place_Then.f (K : Nat) (a0_0 : Int) (a0_1 : Int) (a0_2 : Int) (a1_0 : Int) (a1_1 : Int) (a1_2 : Int) : Option (Int × Int × Int) := ((place_Do.f K a1_0 a1_1 a1_2 a0_1 a0_2).bind fun b0 => ((turn_Then.f a0_0 a1_0).bind fun b1 => some (b1, b0.1, b0.2)))
noncomputable def place_Then.app (K : Nat) : App := fun ps => (place_Then.ra.de ps).bind fun x => (place_Then.f K x.1 x.2.1 x.2.2.1 x.2.2.2.1 x.2.2.2.2.1 x.2.2.2.2.2).map place_Then.rr.en
theorem place_Then.ap (K : Nat) (a0_0 : Int) (a0_1 : Int) (a0_2 : Int) (a1_0 : Int) (a1_1 : Int) (a1_2 : Int) : place_Then.app K [.int a0_0, .int a0_1, .int a0_2, .int a1_0, .int a1_1, .int a1_2] = (place_Then.f K a0_0 a0_1 a0_2 a1_0 a1_1 a1_2).map place_Then.rr.en := app_ap place_Then.ra place_Then.rr (fun x => place_Then.f K x.1 x.2.1 x.2.2.1 x.2.2.2.1 x.2.2.2.2.1 x.2.2.2.2.2) (a0_0, a0_1, a0_2, a1_0, a1_1, a1_2)
theorem place_Then.is : FnIs Try.prog 80 (.init place_Then.sg) place_Then.t place_Then.cf := ⟨Try.f80, place_Then.body, 6000, Try.func80, by kernel_rfl, rfl, rfl, by decide +kernel, by kernel_rfl⟩
theorem place_Then.den (F : FnE) (K : Nat) (h97 : F 97 = place_Do.app K) (h98 : F 98 = turn_Then.app) (a0_0 : Int) (a0_1 : Int) (a0_2 : Int) (a1_0 : Int) (a1_1 : Int) (a1_2 : Int) : Sy.den F K place_Then.t [] [.int a0_0, .int a0_1, .int a0_2, .int a1_0, .int a1_1, .int a1_2] = (place_Then.f K a0_0 a0_1 a0_2 a1_0 a1_1 a1_2).map place_Then.rr.en := by
  unfold place_Then.t place_Then.f
  refine den_ask (ps := [.int a1_0, .int a1_1, .int a1_2, .int a0_1, .int a0_2]) (rr := place_Do.rr) (G := place_Do.f K a1_0 a1_1 a1_2 a0_1 a0_2) (by rw [h97]; exact place_Do.ap K a1_0 a1_1 a1_2 a0_1 a0_2) rfl rfl fun b0 => ?_
  show Sy.den F K _ _ [.int a0_0, .int a0_1, .int a0_2, .int a1_0, .int a1_1, .int a1_2, .int b0.1, .int b0.2] = _
  refine den_ask (ps := [.int a0_0, .int a1_0]) (rr := turn_Then.rr) (G := turn_Then.f a0_0 a1_0) (by rw [h98]; exact turn_Then.ap a0_0 a1_0) rfl rfl fun b1 => ?_
  show Sy.den F K _ _ [.int a0_0, .int a0_1, .int a0_2, .int a1_0, .int a1_1, .int a1_2, .int b0.1, .int b0.2, .int b1] = _
  exact den_ret rfl
theorem place_Then.ok (F : FnE) (K : Nat) (h97 : F 97 = place_Do.app K) (h98 : F 98 = turn_Then.app) (ps r : List PD) (h : place_Then.app K ps = some r) : Sy.den F K place_Then.t [] ps = some r := by
  obtain ⟨a, rfl, h2⟩ := app_ok (ra := place_Then.ra) (rr := place_Then.rr) (f := fun x => place_Then.f K x.1 x.2.1 x.2.2.1 x.2.2.2.1 x.2.2.2.2.1 x.2.2.2.2.2) h
  rw [← h2]
  exact place_Then.den F K h97 h98 (a.1) (a.2.1) (a.2.2.1) (a.2.2.2.1) (a.2.2.2.2.1) (a.2.2.2.2.2)
noncomputable def l80 (K : Nat) : List (Nat × App) := (80, place_Then.app K) :: l98 K
theorem gd80 (K : Nat) : Sy.Good Try.prog fns (mkF (l80 K)) := good_cons (K := K) place_Then.is rfl (by kernel_rfl) (by decide +kernel) envOk relOk relNp mix (gd98 K) noExt_ok (place_Then.ok _ K rfl rfl)
/-! ### place_Box: function 83 -/
noncomputable def place_Box.body : Code := Try.f83.body.getD .skip
noncomputable def place_Box.sg : List S1 := [(.agg [.i, .i, .i]), (.agg [.i, .i, .i, .i])]
noncomputable def place_Box.sh : Sh := (.one (.agg [.i, .i, .i, .i]))
noncomputable def place_Box.cf : Cfg := ⟨env, Try.f83.ntmps, Try.f83.results.toList, some place_Box.sh, rel, [], [], noExt⟩
noncomputable def place_Box.t : Tree := (.ask 97 [(.ex (.va 0)), (.ex (.va 1)), (.ex (.va 2)), (.ex (.va 3)), (.ex (.va 4))] [.i, .i] (.ask 97 [(.ex (.va 0)), (.ex (.va 1)), (.ex (.va 2)), (.ex (.va 5)), (.ex (.va 6))] [.i, .i] (.ret [(.ex (.mn (.va 7) (.va 9))), (.ex (.mn (.va 8) (.va 10))), (.ex (.mx (.va 7) (.va 9))), (.ex (.mx (.va 8) (.va 10)))])))
noncomputable def place_Box.ra : Rw (Int × Int × Int × Int × Int × Int × Int) := (rwP rwI (rwP rwI (rwP rwI (rwP rwI (rwP rwI (rwP rwI rwI))))))
noncomputable def place_Box.rr : Rw (Int × Int × Int × Int) := (rwP rwI (rwP rwI (rwP rwI rwI)))
theorem place_Box.rr_en (r : Int × Int × Int × Int) : place_Box.rr.en r = [.int r.1, .int r.2.1, .int r.2.2.1, .int r.2.2.2] := rfl
noncomputable def place_Box.f (K : Nat) (a0_0 : Int) (a0_1 : Int) (a0_2 : Int) (a1_0 : Int) (a1_1 : Int) (a1_2 : Int) (a1_3 : Int) : Option (Int × Int × Int × Int) := ((place_Do.f K a0_0 a0_1 a0_2 a1_0 a1_1).bind fun b0 => ((place_Do.f K a0_0 a0_1 a0_2 a1_2 a1_3).bind fun b1 => some ((mni b0.1 b1.1), (mni b0.2 b1.2), (mxi b0.1 b1.1), (mxi b0.2 b1.2))))
noncomputable def place_Box.app (K : Nat) : App := fun ps => (place_Box.ra.de ps).bind fun x => (place_Box.f K x.1 x.2.1 x.2.2.1 x.2.2.2.1 x.2.2.2.2.1 x.2.2.2.2.2.1 x.2.2.2.2.2.2).map place_Box.rr.en
theorem place_Box.ap (K : Nat) (a0_0 : Int) (a0_1 : Int) (a0_2 : Int) (a1_0 : Int) (a1_1 : Int) (a1_2 : Int) (a1_3 : Int) : place_Box.app K [.int a0_0, .int a0_1, .int a0_2, .int a1_0, .int a1_1, .int a1_2, .int a1_3] = (place_Box.f K a0_0 a0_1 a0_2 a1_0 a1_1 a1_2 a1_3).map place_Box.rr.en := app_ap place_Box.ra place_Box.rr (fun x => place_Box.f K x.1 x.2.1 x.2.2.1 x.2.2.2.1 x.2.2.2.2.1 x.2.2.2.2.2.1 x.2.2.2.2.2.2) (a0_0, a0_1, a0_2, a1_0, a1_1, a1_2, a1_3)
theorem place_Box.is : FnIs Try.prog 83 (.init place_Box.sg) place_Box.t place_Box.cf := ⟨Try.f83, place_Box.body, 6000, Try.func83, by kernel_rfl, rfl, rfl, by decide +kernel, by kernel_rfl⟩
theorem place_Box.den (F : FnE) (K : Nat) (h97 : F 97 = place_Do.app K) (a0_0 : Int) (a0_1 : Int) (a0_2 : Int) (a1_0 : Int) (a1_1 : Int) (a1_2 : Int) (a1_3 : Int) : Sy.den F K place_Box.t [] [.int a0_0, .int a0_1, .int a0_2, .int a1_0, .int a1_1, .int a1_2, .int a1_3] = (place_Box.f K a0_0 a0_1 a0_2 a1_0 a1_1 a1_2 a1_3).map place_Box.rr.en := by
  unfold place_Box.t place_Box.f
  refine den_ask (ps := [.int a0_0, .int a0_1, .int a0_2, .int a1_0, .int a1_1]) (rr := place_Do.rr) (G := place_Do.f K a0_0 a0_1 a0_2 a1_0 a1_1) (by rw [h97]; exact place_Do.ap K a0_0 a0_1 a0_2 a1_0 a1_1) rfl rfl fun b0 => ?_
  show Sy.den F K _ _ [.int a0_0, .int a0_1, .int a0_2, .int a1_0, .int a1_1, .int a1_2, .int a1_3, .int b0.1, .int b0.2] = _
  refine den_ask (ps := [.int a0_0, .int a0_1, .int a0_2, .int a1_2, .int a1_3]) (rr := place_Do.rr) (G := place_Do.f K a0_0 a0_1 a0_2 a1_2 a1_3) (by rw [h97]; exact place_Do.ap K a0_0 a0_1 a0_2 a1_2 a1_3) rfl rfl fun b1 => ?_
  show Sy.den F K _ _ [.int a0_0, .int a0_1, .int a0_2, .int a1_0, .int a1_1, .int a1_2, .int a1_3, .int b0.1, .int b0.2, .int b1.1, .int b1.2] = _
  exact den_ret rfl
theorem place_Box.ok (F : FnE) (K : Nat) (h97 : F 97 = place_Do.app K) (ps r : List PD) (h : place_Box.app K ps = some r) : Sy.den F K place_Box.t [] ps = some r := by
  obtain ⟨a, rfl, h2⟩ := app_ok (ra := place_Box.ra) (rr := place_Box.rr) (f := fun x => place_Box.f K x.1 x.2.1 x.2.2.1 x.2.2.2.1 x.2.2.2.2.1 x.2.2.2.2.2.1 x.2.2.2.2.2.2) h
  rw [← h2]
  exact place_Box.den F K h97 (a.1) (a.2.1) (a.2.2.1) (a.2.2.2.1) (a.2.2.2.2.1) (a.2.2.2.2.2.1) (a.2.2.2.2.2.2)
noncomputable def l83 (K : Nat) : List (Nat × App) := (83, place_Box.app K) :: l80 K
theorem gd83 (K : Nat) : Sy.Good Try.prog fns (mkF (l83 K)) := good_cons (K := K) place_Box.is rfl (by kernel_rfl) (by decide +kernel) envOk relOk relNp mix (gd80 K) noExt_ok (place_Box.ok _ K rfl)
/-! ### face_Of: function 51 -/
noncomputable def face_Of.body : Code := Try.f51.body.getD .skip
noncomputable def face_Of.sg : List S1 := [(.agg [.s, .i, .i, .i, .i, .i, .i, .i, .i, .i, .i, .i, .i, .i, .o, .o, .i, .i, .i, .i, .i, .i, .i, .i, .i, .i, .i, .i, .i, .i, .i, .i, .i]), (.agg [.i, .i, (.l 77 10), (.l 77 10)]), (.agg [.i, .i, .i, .i, .i, .i, .i]), (.one .b)]
noncomputable def face_Of.sh : Sh := (.one (.agg [.i, .i, .i, .i, .i, .i, .i, .i, .i, .i]))
noncomputable def face_Of.cf : Cfg := ⟨env, Try.f51.ntmps, Try.f51.results.toList, some face_Of.sh, rel, [7], [((7, 1454, 47), ⟨[], [], [(28, [(0, .i), (0, .i)])], [(1006, [(0, .i), (1, .i), (2, .i), (3, .i), (4, .i), (5, .i), (6, .i), (7, .i), (8, .i), (9, .s)]), (942, [(8, .i), (9, .i)])]⟩), ((7, 1262, 47), ⟨[], [], [(28, [(0, .i), (0, .i)])], [(814, [(0, .i), (1, .i), (2, .i), (3, .i), (4, .i), (5, .i), (6, .i), (7, .i), (8, .i), (9, .s)]), (750, [(8, .i), (9, .i)])]⟩)], noExt⟩
noncomputable def face_Of.b1 : Tree := (.ite (.lt (.va 47) (.lens [46] 0)) (.ite (.le (.nu 0) (.va 47)) (.get 46 (.va 47) [.i, .i, .i, .i, .i, .i, .i, .i, .i, .s] (.ite (.eq (.va 60) (.nu 1)) (.back 0 47 [(.ex (.add (.va 47) (.nu 1))), (.ex (.va 60)), (.ex (.va 61)), (.ex (.va 62)), (.ex (.va 63)), (.ex (.va 64)), (.ex (.va 65)), (.ex (.va 66)), (.ex (.va 67)), (.ex (.va 68)), (.so (.va 69)), (.ex (.add (.va 58) (.nu 1))), (.ex (.va 59))]) (.back 0 47 [(.ex (.add (.va 47) (.nu 1))), (.ex (.va 48)), (.ex (.va 49)), (.ex (.va 50)), (.ex (.va 51)), (.ex (.va 52)), (.ex (.va 53)), (.ex (.va 54)), (.ex (.va 55)), (.ex (.va 56)), (.so (.va 57)), (.ex (.va 58)), (.ex (.add (.va 59) (.nu 1)))]))) .bad) (.ite (.not (.eq (.va 58) (.nu 1))) (.ret [(.ex (.nu 0)), (.ex (.nu 0)), (.ex (.nu 0)), (.ex (.nu 0)), (.ex (.nu 0)), (.ex (.nu 0)), (.ex (.nu 0)), (.ex (.nu 0)), (.ex (.va 58)), (.ex (.va 59))]) (.ite (.not (.va 44)) (.ask 69 [(.ex (.va 4))] [.i, .i, .i] (.ask 80 [(.ex (.va 41)), (.ex (.va 42)), (.ex (.va 43)), (.ex (.va 60)), (.ex (.va 61)), (.ex (.va 62))] [.i, .i, .i] (.ask 80 [(.ex (.va 50)), (.ex (.va 51)), (.ex (.va 52)), (.ex (.va 63)), (.ex (.va 64)), (.ex (.va 65))] [.i, .i, .i] (.ask 89 [(.ex (.va 53)), (.ex (.va 54)), (.ex (.va 55)), (.ex (.va 56)), (.ex (.va 37)), (.ex (.va 38)), (.ex (.va 39)), (.ex (.va 40))] [.i, .i, .i, .i] (.ask 83 [(.ex (.va 63)), (.ex (.va 64)), (.ex (.va 65)), (.ex (.va 69)), (.ex (.va 70)), (.ex (.va 71)), (.ex (.va 72))] [.i, .i, .i, .i] (.ret [(.ex (.va 49)), (.ex (.va 66)), (.ex (.va 67)), (.ex (.va 68)), (.ex (.va 73)), (.ex (.va 74)), (.ex (.va 75)), (.ex (.va 76)), (.ex (.va 58)), (.ex (.va 59))])))))) (.ask 80 [(.ex (.va 50)), (.ex (.va 51)), (.ex (.va 52)), (.ex (.va 41)), (.ex (.va 42)), (.ex (.va 43))] [.i, .i, .i] (.ask 89 [(.ex (.va 53)), (.ex (.va 54)), (.ex (.va 55)), (.ex (.va 56)), (.ex (.va 37)), (.ex (.va 38)), (.ex (.va 39)), (.ex (.va 40))] [.i, .i, .i, .i] (.ask 83 [(.ex (.va 41)), (.ex (.va 42)), (.ex (.va 43)), (.ex (.va 63)), (.ex (.va 64)), (.ex (.va 65)), (.ex (.va 66))] [.i, .i, .i, .i] (.ret [(.ex (.va 49)), (.ex (.va 60)), (.ex (.va 61)), (.ex (.va 62)), (.ex (.va 67)), (.ex (.va 68)), (.ex (.va 69)), (.ex (.va 70)), (.ex (.va 58)), (.ex (.va 59))])))))))
noncomputable def face_Of.b0 : Tree := (.ite (.lt (.va 47) (.lens [46] 0)) (.ite (.le (.nu 0) (.va 47)) (.get 46 (.va 47) [.i, .i, .i, .i, .i, .i, .i, .i, .i, .s] (.ite (.eq (.va 60) (.nu 1)) (.back 0 47 [(.ex (.add (.va 47) (.nu 1))), (.ex (.va 60)), (.ex (.va 61)), (.ex (.va 62)), (.ex (.va 63)), (.ex (.va 64)), (.ex (.va 65)), (.ex (.va 66)), (.ex (.va 67)), (.ex (.va 68)), (.so (.va 69)), (.ex (.add (.va 58) (.nu 1))), (.ex (.va 59))]) (.back 0 47 [(.ex (.add (.va 47) (.nu 1))), (.ex (.va 48)), (.ex (.va 49)), (.ex (.va 50)), (.ex (.va 51)), (.ex (.va 52)), (.ex (.va 53)), (.ex (.va 54)), (.ex (.va 55)), (.ex (.va 56)), (.so (.va 57)), (.ex (.va 58)), (.ex (.add (.va 59) (.nu 1)))]))) .bad) (.ite (.not (.eq (.va 58) (.nu 1))) (.ret [(.ex (.nu 0)), (.ex (.nu 0)), (.ex (.nu 0)), (.ex (.nu 0)), (.ex (.nu 0)), (.ex (.nu 0)), (.ex (.nu 0)), (.ex (.nu 0)), (.ex (.va 58)), (.ex (.va 59))]) (.ite (.not (.va 44)) (.ask 69 [(.ex (.va 4))] [.i, .i, .i] (.ask 80 [(.ex (.va 41)), (.ex (.va 42)), (.ex (.va 43)), (.ex (.va 60)), (.ex (.va 61)), (.ex (.va 62))] [.i, .i, .i] (.ask 80 [(.ex (.va 50)), (.ex (.va 51)), (.ex (.va 52)), (.ex (.va 63)), (.ex (.va 64)), (.ex (.va 65))] [.i, .i, .i] (.ask 89 [(.ex (.va 53)), (.ex (.va 54)), (.ex (.va 55)), (.ex (.va 56)), (.ex (.va 37)), (.ex (.va 38)), (.ex (.va 39)), (.ex (.va 40))] [.i, .i, .i, .i] (.ask 83 [(.ex (.va 63)), (.ex (.va 64)), (.ex (.va 65)), (.ex (.va 69)), (.ex (.va 70)), (.ex (.va 71)), (.ex (.va 72))] [.i, .i, .i, .i] (.ret [(.ex (.va 49)), (.ex (.va 66)), (.ex (.va 67)), (.ex (.va 68)), (.ex (.va 73)), (.ex (.va 74)), (.ex (.va 75)), (.ex (.va 76)), (.ex (.va 58)), (.ex (.va 59))])))))) (.ask 80 [(.ex (.va 50)), (.ex (.va 51)), (.ex (.va 52)), (.ex (.va 41)), (.ex (.va 42)), (.ex (.va 43))] [.i, .i, .i] (.ask 89 [(.ex (.va 53)), (.ex (.va 54)), (.ex (.va 55)), (.ex (.va 56)), (.ex (.va 37)), (.ex (.va 38)), (.ex (.va 39)), (.ex (.va 40))] [.i, .i, .i, .i] (.ask 83 [(.ex (.va 41)), (.ex (.va 42)), (.ex (.va 43)), (.ex (.va 63)), (.ex (.va 64)), (.ex (.va 65)), (.ex (.va 66))] [.i, .i, .i, .i] (.ret [(.ex (.va 49)), (.ex (.va 60)), (.ex (.va 61)), (.ex (.va 62)), (.ex (.va 67)), (.ex (.va 68)), (.ex (.va 69)), (.ex (.va 70)), (.ex (.va 58)), (.ex (.va 59))])))))))
noncomputable def face_Of.t : Tree := (.ask 41 [(.ex (.va 37)), (.ex (.va 38)), (.ex (.va 39)), (.ex (.va 40)), (.ex (.va 41)), (.ex (.va 42)), (.ex (.va 43))] [.b] (.ite (.eqb (.va 45) (.va 44)) (.ask 53 [(.li 35), (.ex (.va 37)), (.ex (.va 38)), (.ex (.va 39)), (.ex (.va 40))] [(.l 77 10)] (.loop [(.ex (.nu 0)), (.ex (.nu 0)), (.ex (.nu 0)), (.ex (.nu 0)), (.ex (.nu 0)), (.ex (.nu 0)), (.ex (.nu 0)), (.ex (.nu 0)), (.ex (.nu 0)), (.ex (.nu 0)), (.so (.co ⟨#[]⟩)), (.ex (.nu 0)), (.ex (.nu 0))] [.i, .i, .i, .i, .i, .i, .i, .i, .i, .i, .s, .i, .i] face_Of.b0)) (.ask 53 [(.li 36), (.ex (.va 37)), (.ex (.va 38)), (.ex (.va 39)), (.ex (.va 40))] [(.l 77 10)] (.loop [(.ex (.nu 0)), (.ex (.nu 0)), (.ex (.nu 0)), (.ex (.nu 0)), (.ex (.nu 0)), (.ex (.nu 0)), (.ex (.nu 0)), (.ex (.nu 0)), (.ex (.nu 0)), (.ex (.nu 0)), (.so (.co ⟨#[]⟩)), (.ex (.nu 0)), (.ex (.nu 0))] [.i, .i, .i, .i, .i, .i, .i, .i, .i, .i, .s, .i, .i] face_Of.b1))))
noncomputable def face_Of.ra : Rw (ByteArray × Int × Int × Int × Int × Int × Int × Int × Int × Int × Int × Int × Int × Int × Ov × Ov × Int × Int × Int × Int × Int × Int × Int × Int × Int × Int × Int × Int × Int × Int × Int × Int × Int × Int × Int × (List (Int × Int × Int × Int × Int × Int × Int × Int × Int × ByteArray)) × (List (Int × Int × Int × Int × Int × Int × Int × Int × Int × ByteArray)) × Int × Int × Int × Int × Int × Int × Int × Bool) := (rwP rwS (rwP rwI (rwP rwI (rwP rwI (rwP rwI (rwP rwI (rwP rwI (rwP rwI (rwP rwI (rwP rwI (rwP rwI (rwP rwI (rwP rwI (rwP rwI (rwP rwO (rwP rwO (rwP rwI (rwP rwI (rwP rwI (rwP rwI (rwP rwI (rwP rwI (rwP rwI (rwP rwI (rwP rwI (rwP rwI (rwP rwI (rwP rwI (rwP rwI (rwP rwI (rwP rwI (rwP rwI (rwP rwI (rwP rwI (rwP rwI (rwP (rwL 77 10 rw_iiiiiiiiis rfl) (rwP (rwL 77 10 rw_iiiiiiiiis rfl) (rwP rwI (rwP rwI (rwP rwI (rwP rwI (rwP rwI (rwP rwI (rwP rwI rwB))))))))))))))))))))))))))))))))))))))))))))
noncomputable def face_Of.rr : Rw (Int × Int × Int × Int × Int × Int × Int × Int × Int × Int) := (rwP rwI (rwP rwI (rwP rwI (rwP rwI (rwP rwI (rwP rwI (rwP rwI (rwP rwI (rwP rwI rwI)))))))))
theorem face_Of.rr_en (r : Int × Int × Int × Int × Int × Int × Int × Int × Int × Int) : face_Of.rr.en r = [.int r.1, .int r.2.1, .int r.2.2.1, .int r.2.2.2.1, .int r.2.2.2.2.1, .int r.2.2.2.2.2.1, .int r.2.2.2.2.2.2.1, .int r.2.2.2.2.2.2.2.1, .int r.2.2.2.2.2.2.2.2.1, .int r.2.2.2.2.2.2.2.2.2] := rfl
noncomputable def face_Of.l1 (K : Nat) (p4 : Int) (p37 : Int) (p38 : Int) (p39 : Int) (p40 : Int) (p41 : Int) (p42 : Int) (p43 : Int) (p44 : Bool) (p46 : List (Int × Int × Int × Int × Int × Int × Int × Int × Int × ByteArray)) : Nat → (Int) → (Int) → (Int) → (Int) → (Int) → (Int) → (Int) → (Int) → (Int) → (Int) → (ByteArray) → (Int) → (Int) → Option (Int × Int × Int × Int × Int × Int × Int × Int × Int × Int)
  | 0, _, _, _, _, _, _, _, _, _, _, _, _, _ => none
  | k + 1, x0, x1, x2, x3, x4, x5, x6, x7, x8, x9, x10, x11, x12 => (if (decide (x0 < ((p46.length : Nat) : Int))) = true then (if (decide (0 ≤ x0)) = true then ((p46[(x0 : Int).toNat]?).bind fun b0 => (if (b0.1 == 1) = true then (face_Of.l1 K p4 p37 p38 p39 p40 p41 p42 p43 p44 p46 k (wrap64 (x0 + 1)) b0.1 b0.2.1 b0.2.2.1 b0.2.2.2.1 b0.2.2.2.2.1 b0.2.2.2.2.2.1 b0.2.2.2.2.2.2.1 b0.2.2.2.2.2.2.2.1 b0.2.2.2.2.2.2.2.2.1 b0.2.2.2.2.2.2.2.2.2 (wrap64 (x11 + 1)) x12) else (face_Of.l1 K p4 p37 p38 p39 p40 p41 p42 p43 p44 p46 k (wrap64 (x0 + 1)) x1 x2 x3 x4 x5 x6 x7 x8 x9 x10 x11 (wrap64 (x12 + 1))))) else none) else (if (!(x11 == 1)) = true then some (0, 0, 0, 0, 0, 0, 0, 0, x11, x12) else (if (!p44) = true then ((place_FlipX.f p4).bind fun b0 => ((place_Then.f K p41 p42 p43 b0.1 b0.2.1 b0.2.2).bind fun b1 => ((place_Then.f K x3 x4 x5 b1.1 b1.2.1 b1.2.2).bind fun b2 => ((box_Meet.f x6 x7 x8 x9 p37 p38 p39 p40).bind fun b3 => ((place_Box.f K b1.1 b1.2.1 b1.2.2 b3.1 b3.2.1 b3.2.2.1 b3.2.2.2).bind fun b4 => some (x2, b2.1, b2.2.1, b2.2.2, b4.1, b4.2.1, b4.2.2.1, b4.2.2.2, x11, x12)))))) else ((place_Then.f K x3 x4 x5 p41 p42 p43).bind fun b0 => ((box_Meet.f x6 x7 x8 x9 p37 p38 p39 p40).bind fun b1 => ((place_Box.f K p41 p42 p43 b1.1 b1.2.1 b1.2.2.1 b1.2.2.2).bind fun b2 => some (x2, b0.1, b0.2.1, b0.2.2, b2.1, b2.2.1, b2.2.2.1, b2.2.2.2, x11, x12)))))))
noncomputable def face_Of.l0 (K : Nat) (p4 : Int) (p37 : Int) (p38 : Int) (p39 : Int) (p40 : Int) (p41 : Int) (p42 : Int) (p43 : Int) (p44 : Bool) (p46 : List (Int × Int × Int × Int × Int × Int × Int × Int × Int × ByteArray)) : Nat → (Int) → (Int) → (Int) → (Int) → (Int) → (Int) → (Int) → (Int) → (Int) → (Int) → (ByteArray) → (Int) → (Int) → Option (Int × Int × Int × Int × Int × Int × Int × Int × Int × Int)
  | 0, _, _, _, _, _, _, _, _, _, _, _, _, _ => none
  | k + 1, x0, x1, x2, x3, x4, x5, x6, x7, x8, x9, x10, x11, x12 => (if (decide (x0 < ((p46.length : Nat) : Int))) = true then (if (decide (0 ≤ x0)) = true then ((p46[(x0 : Int).toNat]?).bind fun b0 => (if (b0.1 == 1) = true then (face_Of.l0 K p4 p37 p38 p39 p40 p41 p42 p43 p44 p46 k (wrap64 (x0 + 1)) b0.1 b0.2.1 b0.2.2.1 b0.2.2.2.1 b0.2.2.2.2.1 b0.2.2.2.2.2.1 b0.2.2.2.2.2.2.1 b0.2.2.2.2.2.2.2.1 b0.2.2.2.2.2.2.2.2.1 b0.2.2.2.2.2.2.2.2.2 (wrap64 (x11 + 1)) x12) else (face_Of.l0 K p4 p37 p38 p39 p40 p41 p42 p43 p44 p46 k (wrap64 (x0 + 1)) x1 x2 x3 x4 x5 x6 x7 x8 x9 x10 x11 (wrap64 (x12 + 1))))) else none) else (if (!(x11 == 1)) = true then some (0, 0, 0, 0, 0, 0, 0, 0, x11, x12) else (if (!p44) = true then ((place_FlipX.f p4).bind fun b0 => ((place_Then.f K p41 p42 p43 b0.1 b0.2.1 b0.2.2).bind fun b1 => ((place_Then.f K x3 x4 x5 b1.1 b1.2.1 b1.2.2).bind fun b2 => ((box_Meet.f x6 x7 x8 x9 p37 p38 p39 p40).bind fun b3 => ((place_Box.f K b1.1 b1.2.1 b1.2.2 b3.1 b3.2.1 b3.2.2.1 b3.2.2.2).bind fun b4 => some (x2, b2.1, b2.2.1, b2.2.2, b4.1, b4.2.1, b4.2.2.1, b4.2.2.2, x11, x12)))))) else ((place_Then.f K x3 x4 x5 p41 p42 p43).bind fun b0 => ((box_Meet.f x6 x7 x8 x9 p37 p38 p39 p40).bind fun b1 => ((place_Box.f K p41 p42 p43 b1.1 b1.2.1 b1.2.2.1 b1.2.2.2).bind fun b2 => some (x2, b0.1, b0.2.1, b0.2.2, b2.1, b2.2.1, b2.2.2.1, b2.2.2.2, x11, x12)))))))
noncomputable def face_Of.f (K : Nat) (a0_0 : ByteArray) (a0_1 : Int) (a0_2 : Int) (a0_3 : Int) (a0_4 : Int) (a0_5 : Int) (a0_6 : Int) (a0_7 : Int) (a0_8 : Int) (a0_9 : Int) (a0_10 : Int) (a0_11 : Int) (a0_12 : Int) (a0_13 : Int) (a0_14 : Ov) (a0_15 : Ov) (a0_16 : Int) (a0_17 : Int) (a0_18 : Int) (a0_19 : Int) (a0_20 : Int) (a0_21 : Int) (a0_22 : Int) (a0_23 : Int) (a0_24 : Int) (a0_25 : Int) (a0_26 : Int) (a0_27 : Int) (a0_28 : Int) (a0_29 : Int) (a0_30 : Int) (a0_31 : Int) (a0_32 : Int) (a1_0 : Int) (a1_1 : Int) (a1_2 : List (Int × Int × Int × Int × Int × Int × Int × Int × Int × ByteArray)) (a1_3 : List (Int × Int × Int × Int × Int × Int × Int × Int × Int × ByteArray)) (a2_0 : Int) (a2_1 : Int) (a2_2 : Int) (a2_3 : Int) (a2_4 : Int) (a2_5 : Int) (a2_6 : Int) (a3 : Bool) : Option (Int × Int × Int × Int × Int × Int × Int × Int × Int × Int) := ((layer_Up.f a2_0 a2_1 a2_2 a2_3 a2_4 a2_5 a2_6).bind fun b0 => (if (b0 == a3) = true then ((face_On.f K a1_2 a2_0 a2_1 a2_2 a2_3).bind fun b1 => (face_Of.l0 K a0_4 a2_0 a2_1 a2_2 a2_3 a2_4 a2_5 a2_6 a3 b1 K 0 0 0 0 0 0 0 0 0 0 (⟨#[]⟩ : ByteArray) 0 0)) else ((face_On.f K a1_3 a2_0 a2_1 a2_2 a2_3).bind fun b1 => (face_Of.l1 K a0_4 a2_0 a2_1 a2_2 a2_3 a2_4 a2_5 a2_6 a3 b1 K 0 0 0 0 0 0 0 0 0 0 (⟨#[]⟩ : ByteArray) 0 0))))
noncomputable def face_Of.app (K : Nat) : App := fun ps => (face_Of.ra.de ps).bind fun x => (face_Of.f K x.1 x.2.1 x.2.2.1 x.2.2.2.1 x.2.2.2.2.1 x.2.2.2.2.2.1 x.2.2.2.2.2.2.1 x.2.2.2.2.2.2.2.1 x.2.2.2.2.2.2.2.2.1 x.2.2.2.2.2.2.2.2.2.1 x.2.2.2.2.2.2.2.2.2.2.1 x.2.2.2.2.2.2.2.2.2.2.2.1 x.2.2.2.2.2.2.2.2.2.2.2.2.1 x.2.2.2.2.2.2.2.2.2.2.2.2.2.1 x.2.2.2.2.2.2.2.2.2.2.2.2.2.2.1 x.2.2.2.2.2.2.2.2.2.2.2.2.2.2.2.1 x.2.2.2.2.2.2.2.2.2.2.2.2.2.2.2.2.1 x.2.2.2.2.2.2.2.2.2.2.2.2.2.2.2.2.2.1 x.2.2.2.2.2.2.2.2.2.2.2.2.2.2.2.2.2.2.1 x.2.2.2.2.2.2.2.2.2.2.2.2.2.2.2.2.2.2.2.1 x.2.2.2.2.2.2.2.2.2.2.2.2.2.2.2.2.2.2.2.2.1 x.2.2.2.2.2.2.2.2.2.2.2.2.2.2.2.2.2.2.2.2.2.1 x.2.2.2.2.2.2.2.2.2.2.2.2.2.2.2.2.2.2.2.2.2.2.1 x.2.2.2.2.2.2.2.2.2.2.2.2.2.2.2.2.2.2.2.2.2.2.2.1 x.2.2.2.2.2.2.2.2.2.2.2.2.2.2.2.2.2.2.2.2.2.2.2.2.1 x.2.2.2.2.2.2.2.2.2.2.2.2.2.2.2.2.2.2.2.2.2.2.2.2.2.1 x.2.2.2.2.2.2.2.2.2.2.2.2.2.2.2.2.2.2.2.2.2.2.2.2.2.2.1 x.2.2.2.2.2.2.2.2.2.2.2.2.2.2.2.2.2.2.2.2.2.2.2.2.2.2.2.1 x.2.2.2.2.2.2.2.2.2.2.2.2.2.2.2.2.2.2.2.2.2.2.2.2.2.2.2.2.1 x.2.2.2.2.2.2.2.2.2.2.2.2.2.2.2.2.2.2.2.2.2.2.2.2.2.2.2.2.2.1 x.2.2.2.2.2.2.2.2.2.2.2.2.2.2.2.2.2.2.2.2.2.2.2.2.2.2.2.2.2.2.1 x.2.2.2.2.2.2.2.2.2.2.2.2.2.2.2.2.2.2.2.2.2.2.2.2.2.2.2.2.2.2.2.1 x.2.2.2.2.2.2.2.2.2.2.2.2.2.2.2.2.2.2.2.2.2.2.2.2.2.2.2.2.2.2.2.2.1 x.2.2.2.2.2.2.2.2.2.2.2.2.2.2.2.2.2.2.2.2.2.2.2.2.2.2.2.2.2.2.2.2.2.1 x.2.2.2.2.2.2.2.2.2.2.2.2.2.2.2.2.2.2.2.2.2.2.2.2.2.2.2.2.2.2.2.2.2.2.1 x.2.2.2.2.2.2.2.2.2.2.2.2.2.2.2.2.2.2.2.2.2.2.2.2.2.2.2.2.2.2.2.2.2.2.2.1 x.2.2.2.2.2.2.2.2.2.2.2.2.2.2.2.2.2.2.2.2.2.2.2.2.2.2.2.2.2.2.2.2.2.2.2.2.1 x.2.2.2.2.2.2.2.2.2.2.2.2.2.2.2.2.2.2.2.2.2.2.2.2.2.2.2.2.2.2.2.2.2.2.2.2.2.1 x.2.2.2.2.2.2.2.2.2.2.2.2.2.2.2.2.2.2.2.2.2.2.2.2.2.2.2.2.2.2.2.2.2.2.2.2.2.2.1 x.2.2.2.2.2.2.2.2.2.2.2.2.2.2.2.2.2.2.2.2.2.2.2.2.2.2.2.2.2.2.2.2.2.2.2.2.2.2.2.1 x.2.2.2.2.2.2.2.2.2.2.2.2.2.2.2.2.2.2.2.2.2.2.2.2.2.2.2.2.2.2.2.2.2.2.2.2.2.2.2.2.1 x.2.2.2.2.2.2.2.2.2.2.2.2.2.2.2.2.2.2.2.2.2.2.2.2.2.2.2.2.2.2.2.2.2.2.2.2.2.2.2.2.2.1 x.2.2.2.2.2.2.2.2.2.2.2.2.2.2.2.2.2.2.2.2.2.2.2.2.2.2.2.2.2.2.2.2.2.2.2.2.2.2.2.2.2.2.1 x.2.2.2.2.2.2.2.2.2.2.2.2.2.2.2.2.2.2.2.2.2.2.2.2.2.2.2.2.2.2.2.2.2.2.2.2.2.2.2.2.2.2.2.1 x.2.2.2.2.2.2.2.2.2.2.2.2.2.2.2.2.2.2.2.2.2.2.2.2.2.2.2.2.2.2.2.2.2.2.2.2.2.2.2.2.2.2.2.2).map face_Of.rr.en
theorem face_Of.ap (K : Nat) (a0_0 : ByteArray) (a0_1 : Int) (a0_2 : Int) (a0_3 : Int) (a0_4 : Int) (a0_5 : Int) (a0_6 : Int) (a0_7 : Int) (a0_8 : Int) (a0_9 : Int) (a0_10 : Int) (a0_11 : Int) (a0_12 : Int) (a0_13 : Int) (a0_14 : Ov) (a0_15 : Ov) (a0_16 : Int) (a0_17 : Int) (a0_18 : Int) (a0_19 : Int) (a0_20 : Int) (a0_21 : Int) (a0_22 : Int) (a0_23 : Int) (a0_24 : Int) (a0_25 : Int) (a0_26 : Int) (a0_27 : Int) (a0_28 : Int) (a0_29 : Int) (a0_30 : Int) (a0_31 : Int) (a0_32 : Int) (a1_0 : Int) (a1_1 : Int) (a1_2 : List (Int × Int × Int × Int × Int × Int × Int × Int × Int × ByteArray)) (a1_3 : List (Int × Int × Int × Int × Int × Int × Int × Int × Int × ByteArray)) (a2_0 : Int) (a2_1 : Int) (a2_2 : Int) (a2_3 : Int) (a2_4 : Int) (a2_5 : Int) (a2_6 : Int) (a3 : Bool) : face_Of.app K [.str a0_0, .int a0_1, .int a0_2, .int a0_3, .int a0_4, .int a0_5, .int a0_6, .int a0_7, .int a0_8, .int a0_9, .int a0_10, .int a0_11, .int a0_12, .int a0_13, .oth a0_14.1, .oth a0_15.1, .int a0_16, .int a0_17, .int a0_18, .int a0_19, .int a0_20, .int a0_21, .int a0_22, .int a0_23, .int a0_24, .int a0_25, .int a0_26, .int a0_27, .int a0_28, .int a0_29, .int a0_30, .int a0_31, .int a0_32, .int a1_0, .int a1_1, .lst 10 (a1_2.map rw_iiiiiiiiis.en), .lst 10 (a1_3.map rw_iiiiiiiiis.en), .int a2_0, .int a2_1, .int a2_2, .int a2_3, .int a2_4, .int a2_5, .int a2_6, .bool a3] = (face_Of.f K a0_0 a0_1 a0_2 a0_3 a0_4 a0_5 a0_6 a0_7 a0_8 a0_9 a0_10 a0_11 a0_12 a0_13 a0_14 a0_15 a0_16 a0_17 a0_18 a0_19 a0_20 a0_21 a0_22 a0_23 a0_24 a0_25 a0_26 a0_27 a0_28 a0_29 a0_30 a0_31 a0_32 a1_0 a1_1 a1_2 a1_3 a2_0 a2_1 a2_2 a2_3 a2_4 a2_5 a2_6 a3).map face_Of.rr.en := app_ap face_Of.ra face_Of.rr (fun x => face_Of.f K x.1 x.2.1 x.2.2.1 x.2.2.2.1 x.2.2.2.2.1 x.2.2.2.2.2.1 x.2.2.2.2.2.2.1 x.2.2.2.2.2.2.2.1 x.2.2.2.2.2.2.2.2.1 x.2.2.2.2.2.2.2.2.2.1 x.2.2.2.2.2.2.2.2.2.2.1 x.2.2.2.2.2.2.2.2.2.2.2.1 x.2.2.2.2.2.2.2.2.2.2.2.2.1 x.2.2.2.2.2.2.2.2.2.2.2.2.2.1 x.2.2.2.2.2.2.2.2.2.2.2.2.2.2.1 x.2.2.2.2.2.2.2.2.2.2.2.2.2.2.2.1 x.2.2.2.2.2.2.2.2.2.2.2.2.2.2.2.2.1 x.2.2.2.2.2.2.2.2.2.2.2.2.2.2.2.2.2.1 x.2.2.2.2.2.2.2.2.2.2.2.2.2.2.2.2.2.2.1 x.2.2.2.2.2.2.2.2.2.2.2.2.2.2.2.2.2.2.2.1 x.2.2.2.2.2.2.2.2.2.2.2.2.2.2.2.2.2.2.2.2.1 x.2.2.2.2.2.2.2.2.2.2.2.2.2.2.2.2.2.2.2.2.2.1 x.2.2.2.2.2.2.2.2.2.2.2.2.2.2.2.2.2.2.2.2.2.2.1 x.2.2.2.2.2.2.2.2.2.2.2.2.2.2.2.2.2.2.2.2.2.2.2.1 x.2.2.2.2.2.2.2.2.2.2.2.2.2.2.2.2.2.2.2.2.2.2.2.2.1 x.2.2.2.2.2.2.2.2.2.2.2.2.2.2.2.2.2.2.2.2.2.2.2.2.2.1 x.2.2.2.2.2.2.2.2.2.2.2.2.2.2.2.2.2.2.2.2.2.2.2.2.2.2.1 x.2.2.2.2.2.2.2.2.2.2.2.2.2.2.2.2.2.2.2.2.2.2.2.2.2.2.2.1 x.2.2.2.2.2.2.2.2.2.2.2.2.2.2.2.2.2.2.2.2.2.2.2.2.2.2.2.2.1 x.2.2.2.2.2.2.2.2.2.2.2.2.2.2.2.2.2.2.2.2.2.2.2.2.2.2.2.2.2.1 x.2.2.2.2.2.2.2.2.2.2.2.2.2.2.2.2.2.2.2.2.2.2.2.2.2.2.2.2.2.2.1 x.2.2.2.2.2.2.2.2.2.2.2.2.2.2.2.2.2.2.2.2.2.2.2.2.2.2.2.2.2.2.2.1 x.2.2.2.2.2.2.2.2.2.2.2.2.2.2.2.2.2.2.2.2.2.2.2.2.2.2.2.2.2.2.2.2.1 x.2.2.2.2.2.2.2.2.2.2.2.2.2.2.2.2.2.2.2.2.2.2.2.2.2.2.2.2.2.2.2.2.2.1 x.2.2.2.2.2.2.2.2.2.2.2.2.2.2.2.2.2.2.2.2.2.2.2.2.2.2.2.2.2.2.2.2.2.2.1 x.2.2.2.2.2.2.2.2.2.2.2.2.2.2.2.2.2.2.2.2.2.2.2.2.2.2.2.2.2.2.2.2.2.2.2.1 x.2.2.2.2.2.2.2.2.2.2.2.2.2.2.2.2.2.2.2.2.2.2.2.2.2.2.2.2.2.2.2.2.2.2.2.2.1 x.2.2.2.2.2.2.2.2.2.2.2.2.2.2.2.2.2.2.2.2.2.2.2.2.2.2.2.2.2.2.2.2.2.2.2.2.2.1 x.2.2.2.2.2.2.2.2.2.2.2.2.2.2.2.2.2.2.2.2.2.2.2.2.2.2.2.2.2.2.2.2.2.2.2.2.2.2.1 x.2.2.2.2.2.2.2.2.2.2.2.2.2.2.2.2.2.2.2.2.2.2.2.2.2.2.2.2.2.2.2.2.2.2.2.2.2.2.2.1 x.2.2.2.2.2.2.2.2.2.2.2.2.2.2.2.2.2.2.2.2.2.2.2.2.2.2.2.2.2.2.2.2.2.2.2.2.2.2.2.2.1 x.2.2.2.2.2.2.2.2.2.2.2.2.2.2.2.2.2.2.2.2.2.2.2.2.2.2.2.2.2.2.2.2.2.2.2.2.2.2.2.2.2.1 x.2.2.2.2.2.2.2.2.2.2.2.2.2.2.2.2.2.2.2.2.2.2.2.2.2.2.2.2.2.2.2.2.2.2.2.2.2.2.2.2.2.2.1 x.2.2.2.2.2.2.2.2.2.2.2.2.2.2.2.2.2.2.2.2.2.2.2.2.2.2.2.2.2.2.2.2.2.2.2.2.2.2.2.2.2.2.2.1 x.2.2.2.2.2.2.2.2.2.2.2.2.2.2.2.2.2.2.2.2.2.2.2.2.2.2.2.2.2.2.2.2.2.2.2.2.2.2.2.2.2.2.2.2) (a0_0, a0_1, a0_2, a0_3, a0_4, a0_5, a0_6, a0_7, a0_8, a0_9, a0_10, a0_11, a0_12, a0_13, a0_14, a0_15, a0_16, a0_17, a0_18, a0_19, a0_20, a0_21, a0_22, a0_23, a0_24, a0_25, a0_26, a0_27, a0_28, a0_29, a0_30, a0_31, a0_32, a1_0, a1_1, a1_2, a1_3, a2_0, a2_1, a2_2, a2_3, a2_4, a2_5, a2_6, a3)
theorem face_Of.is : FnIs Try.prog 51 (.init face_Of.sg) face_Of.t face_Of.cf := ⟨Try.f51, face_Of.body, 6000, Try.func51, by kernel_rfl, rfl, rfl, by decide +kernel, by kernel_rfl⟩
theorem face_Of.l1_den (F : FnE) (K : Nat) (h41 : F 41 = layer_Up.app) (h53 : F 53 = face_On.app K) (h69 : F 69 = place_FlipX.app) (h80 : F 80 = place_Then.app K) (h83 : F 83 = place_Box.app K) (h89 : F 89 = box_Meet.app) (Js : List (List PD → Option (List PD))) (p0 : ByteArray) (p1 : Int) (p2 : Int) (p3 : Int) (p4 : Int) (p5 : Int) (p6 : Int) (p7 : Int) (p8 : Int) (p9 : Int) (p10 : Int) (p11 : Int) (p12 : Int) (p13 : Int) (p14 : Ov) (p15 : Ov) (p16 : Int) (p17 : Int) (p18 : Int) (p19 : Int) (p20 : Int) (p21 : Int) (p22 : Int) (p23 : Int) (p24 : Int) (p25 : Int) (p26 : Int) (p27 : Int) (p28 : Int) (p29 : Int) (p30 : Int) (p31 : Int) (p32 : Int) (p33 : Int) (p34 : Int) (p35 : List (Int × Int × Int × Int × Int × Int × Int × Int × Int × ByteArray)) (p36 : List (Int × Int × Int × Int × Int × Int × Int × Int × Int × ByteArray)) (p37 : Int) (p38 : Int) (p39 : Int) (p40 : Int) (p41 : Int) (p42 : Int) (p43 : Int) (p44 : Bool) (p45 : Bool) (p46 : List (Int × Int × Int × Int × Int × Int × Int × Int × Int × ByteArray)) : ∀ (k : Nat) (x0 : Int) (x1 : Int) (x2 : Int) (x3 : Int) (x4 : Int) (x5 : Int) (x6 : Int) (x7 : Int) (x8 : Int) (x9 : Int) (x10 : ByteArray) (x11 : Int) (x12 : Int), iterF (fun J ρ' => den F K face_Of.b1 (J :: Js) ρ') k [.str p0, .int p1, .int p2, .int p3, .int p4, .int p5, .int p6, .int p7, .int p8, .int p9, .int p10, .int p11, .int p12, .int p13, .oth p14.1, .oth p15.1, .int p16, .int p17, .int p18, .int p19, .int p20, .int p21, .int p22, .int p23, .int p24, .int p25, .int p26, .int p27, .int p28, .int p29, .int p30, .int p31, .int p32, .int p33, .int p34, .lst 10 (p35.map rw_iiiiiiiiis.en), .lst 10 (p36.map rw_iiiiiiiiis.en), .int p37, .int p38, .int p39, .int p40, .int p41, .int p42, .int p43, .bool p44, .bool p45, .lst 10 (p46.map rw_iiiiiiiiis.en), .int x0, .int x1, .int x2, .int x3, .int x4, .int x5, .int x6, .int x7, .int x8, .int x9, .str x10, .int x11, .int x12] = (face_Of.l1 K p4 p37 p38 p39 p40 p41 p42 p43 p44 p46 k x0 x1 x2 x3 x4 x5 x6 x7 x8 x9 x10 x11 x12).map face_Of.rr.en := by
  intro k
  induction k with
  | zero => intros; rfl
  | succ k ih =>
    intro x0 x1 x2 x3 x4 x5 x6 x7 x8 x9 x10 x11 x12
    show Sy.den F K face_Of.b1 (iterF (fun J ρ' => Sy.den F K face_Of.b1 (J :: Js) ρ') k :: Js) [.str p0, .int p1, .int p2, .int p3, .int p4, .int p5, .int p6, .int p7, .int p8, .int p9, .int p10, .int p11, .int p12, .int p13, .oth p14.1, .oth p15.1, .int p16, .int p17, .int p18, .int p19, .int p20, .int p21, .int p22, .int p23, .int p24, .int p25, .int p26, .int p27, .int p28, .int p29, .int p30, .int p31, .int p32, .int p33, .int p34, .lst 10 (p35.map rw_iiiiiiiiis.en), .lst 10 (p36.map rw_iiiiiiiiis.en), .int p37, .int p38, .int p39, .int p40, .int p41, .int p42, .int p43, .bool p44, .bool p45, .lst 10 (p46.map rw_iiiiiiiiis.en), .int x0, .int x1, .int x2, .int x3, .int x4, .int x5, .int x6, .int x7, .int x8, .int x9, .str x10, .int x11, .int x12] = _
    revert ih
    generalize iterF (fun J ρ' => Sy.den F K face_Of.b1 (J :: Js) ρ') k = J1
    intro ih
    rw [face_Of.l1]
    show Sy.den F K face_Of.b1 _ [.str p0, .int p1, .int p2, .int p3, .int p4, .int p5, .int p6, .int p7, .int p8, .int p9, .int p10, .int p11, .int p12, .int p13, .oth p14.1, .oth p15.1, .int p16, .int p17, .int p18, .int p19, .int p20, .int p21, .int p22, .int p23, .int p24, .int p25, .int p26, .int p27, .int p28, .int p29, .int p30, .int p31, .int p32, .int p33, .int p34, .lst 10 (p35.map rw_iiiiiiiiis.en), .lst 10 (p36.map rw_iiiiiiiiis.en), .int p37, .int p38, .int p39, .int p40, .int p41, .int p42, .int p43, .bool p44, .bool p45, .lst 10 (p46.map rw_iiiiiiiiis.en), .int x0, .int x1, .int x2, .int x3, .int x4, .int x5, .int x6, .int x7, .int x8, .int x9, .str x10, .int x11, .int x12] = _
    unfold face_Of.b1
    refine den_ite (b := (decide (x0 < ((p46.length : Nat) : Int)))) (by simp only [pds, PC.pd, E.ev, B.ev, SE.ev, LE.rows, lensEv, kSl_eq, kPt_eq, ov_prop, List.getElem?_cons_zero, List.getElem?_cons_succ, List.length_map, Nat.add_zero, Nat.zero_add, Option.bind_some, Option.map_some, if_true, Subtype.eta, mxi, mni, List.map_append, List.map_cons, List.map_nil, List.cons_append, List.nil_append, List.append_nil]) ?_ ?_
    refine den_ite (b := (decide (0 ≤ x0))) rfl ?_ ?_
    refine den_get (L := p46) (rw := rw_iiiiiiiiis) rfl rfl rfl fun b0 => ?_
    show Sy.den F K _ _ [.str p0, .int p1, .int p2, .int p3, .int p4, .int p5, .int p6, .int p7, .int p8, .int p9, .int p10, .int p11, .int p12, .int p13, .oth p14.1, .oth p15.1, .int p16, .int p17, .int p18, .int p19, .int p20, .int p21, .int p22, .int p23, .int p24, .int p25, .int p26, .int p27, .int p28, .int p29, .int p30, .int p31, .int p32, .int p33, .int p34, .lst 10 (p35.map rw_iiiiiiiiis.en), .lst 10 (p36.map rw_iiiiiiiiis.en), .int p37, .int p38, .int p39, .int p40, .int p41, .int p42, .int p43, .bool p44, .bool p45, .lst 10 (p46.map rw_iiiiiiiiis.en), .int x0, .int x1, .int x2, .int x3, .int x4, .int x5, .int x6, .int x7, .int x8, .int x9, .str x10, .int x11, .int x12, .int b0.1, .int b0.2.1, .int b0.2.2.1, .int b0.2.2.2.1, .int b0.2.2.2.2.1, .int b0.2.2.2.2.2.1, .int b0.2.2.2.2.2.2.1, .int b0.2.2.2.2.2.2.2.1, .int b0.2.2.2.2.2.2.2.2.1, .str b0.2.2.2.2.2.2.2.2.2] = _
    refine den_ite (b := (b0.1 == 1)) rfl ?_ ?_
    refine den_back (vs := [.int (wrap64 (x0 + 1)), .int b0.1, .int b0.2.1, .int b0.2.2.1, .int b0.2.2.2.1, .int b0.2.2.2.2.1, .int b0.2.2.2.2.2.1, .int b0.2.2.2.2.2.2.1, .int b0.2.2.2.2.2.2.2.1, .int b0.2.2.2.2.2.2.2.2.1, .str b0.2.2.2.2.2.2.2.2.2, .int (wrap64 (x11 + 1)), .int x12]) rfl rfl ?_
    exact ih (wrap64 (x0 + 1)) b0.1 b0.2.1 b0.2.2.1 b0.2.2.2.1 b0.2.2.2.2.1 b0.2.2.2.2.2.1 b0.2.2.2.2.2.2.1 b0.2.2.2.2.2.2.2.1 b0.2.2.2.2.2.2.2.2.1 b0.2.2.2.2.2.2.2.2.2 (wrap64 (x11 + 1)) x12
    refine den_back (vs := [.int (wrap64 (x0 + 1)), .int x1, .int x2, .int x3, .int x4, .int x5, .int x6, .int x7, .int x8, .int x9, .str x10, .int x11, .int (wrap64 (x12 + 1))]) rfl rfl ?_
    exact ih (wrap64 (x0 + 1)) x1 x2 x3 x4 x5 x6 x7 x8 x9 x10 x11 (wrap64 (x12 + 1))
    exact den_bad _ _ _ _ _
    refine den_ite (b := (!(x11 == 1))) rfl ?_ ?_
    exact den_ret rfl
    refine den_ite (b := (!p44)) rfl ?_ ?_
    refine den_ask (ps := [.int p4]) (rr := place_FlipX.rr) (G := place_FlipX.f p4) (by rw [h69]; exact place_FlipX.ap p4) rfl rfl fun b0 => ?_
    show Sy.den F K _ _ [.str p0, .int p1, .int p2, .int p3, .int p4, .int p5, .int p6, .int p7, .int p8, .int p9, .int p10, .int p11, .int p12, .int p13, .oth p14.1, .oth p15.1, .int p16, .int p17, .int p18, .int p19, .int p20, .int p21, .int p22, .int p23, .int p24, .int p25, .int p26, .int p27, .int p28, .int p29, .int p30, .int p31, .int p32, .int p33, .int p34, .lst 10 (p35.map rw_iiiiiiiiis.en), .lst 10 (p36.map rw_iiiiiiiiis.en), .int p37, .int p38, .int p39, .int p40, .int p41, .int p42, .int p43, .bool p44, .bool p45, .lst 10 (p46.map rw_iiiiiiiiis.en), .int x0, .int x1, .int x2, .int x3, .int x4, .int x5, .int x6, .int x7, .int x8, .int x9, .str x10, .int x11, .int x12, .int b0.1, .int b0.2.1, .int b0.2.2] = _
    refine den_ask (ps := [.int p41, .int p42, .int p43, .int b0.1, .int b0.2.1, .int b0.2.2]) (rr := place_Then.rr) (G := place_Then.f K p41 p42 p43 b0.1 b0.2.1 b0.2.2) (by rw [h80]; exact place_Then.ap K p41 p42 p43 b0.1 b0.2.1 b0.2.2) rfl rfl fun b1 => ?_
    show Sy.den F K _ _ [.str p0, .int p1, .int p2, .int p3, .int p4, .int p5, .int p6, .int p7, .int p8, .int p9, .int p10, .int p11, .int p12, .int p13, .oth p14.1, .oth p15.1, .int p16, .int p17, .int p18, .int p19, .int p20, .int p21, .int p22, .int p23, .int p24, .int p25, .int p26, .int p27, .int p28, .int p29, .int p30, .int p31, .int p32, .int p33, .int p34, .lst 10 (p35.map rw_iiiiiiiiis.en), .lst 10 (p36.map rw_iiiiiiiiis.en), .int p37, .int p38, .int p39, .int p40, .int p41, .int p42, .int p43, .bool p44, .bool p45, .lst 10 (p46.map rw_iiiiiiiiis.en), .int x0, .int x1, .int x2, .int x3, .int x4, .int x5, .int x6, .int x7, .int x8, .int x9, .str x10, .int x11, .int x12, .int b0.1, .int b0.2.1, .int b0.2.2, .int b1.1, .int b1.2.1, .int b1.2.2] = _
    refine den_ask (ps := [.int x3, .int x4, .int x5, .int b1.1, .int b1.2.1, .int b1.2.2]) (rr := place_Then.rr) (G := place_Then.f K x3 x4 x5 b1.1 b1.2.1 b1.2.2) (by rw [h80]; exact place_Then.ap K x3 x4 x5 b1.1 b1.2.1 b1.2.2) rfl rfl fun b2 => ?_
    show Sy.den F K _ _ [.str p0, .int p1, .int p2, .int p3, .int p4, .int p5, .int p6, .int p7, .int p8, .int p9, .int p10, .int p11, .int p12, .int p13, .oth p14.1, .oth p15.1, .int p16, .int p17, .int p18, .int p19, .int p20, .int p21, .int p22, .int p23, .int p24, .int p25, .int p26, .int p27, .int p28, .int p29, .int p30, .int p31, .int p32, .int p33, .int p34, .lst 10 (p35.map rw_iiiiiiiiis.en), .lst 10 (p36.map rw_iiiiiiiiis.en), .int p37, .int p38, .int p39, .int p40, .int p41, .int p42, .int p43, .bool p44, .bool p45, .lst 10 (p46.map rw_iiiiiiiiis.en), .int x0, .int x1, .int x2, .int x3, .int x4, .int x5, .int x6, .int x7, .int x8, .int x9, .str x10, .int x11, .int x12, .int b0.1, .int b0.2.1, .int b0.2.2, .int b1.1, .int b1.2.1, .int b1.2.2, .int b2.1, .int b2.2.1, .int b2.2.2] = _
    refine den_ask (ps := [.int x6, .int x7, .int x8, .int x9, .int p37, .int p38, .int p39, .int p40]) (rr := box_Meet.rr) (G := box_Meet.f x6 x7 x8 x9 p37 p38 p39 p40) (by rw [h89]; exact box_Meet.ap x6 x7 x8 x9 p37 p38 p39 p40) rfl rfl fun b3 => ?_
    show Sy.den F K _ _ [.str p0, .int p1, .int p2, .int p3, .int p4, .int p5, .int p6, .int p7, .int p8, .int p9, .int p10, .int p11, .int p12, .int p13, .oth p14.1, .oth p15.1, .int p16, .int p17, .int p18, .int p19, .int p20, .int p21, .int p22, .int p23, .int p24, .int p25, .int p26, .int p27, .int p28, .int p29, .int p30, .int p31, .int p32, .int p33, .int p34, .lst 10 (p35.map rw_iiiiiiiiis.en), .lst 10 (p36.map rw_iiiiiiiiis.en), .int p37, .int p38, .int p39, .int p40, .int p41, .int p42, .int p43, .bool p44, .bool p45, .lst 10 (p46.map rw_iiiiiiiiis.en), .int x0, .int x1, .int x2, .int x3, .int x4, .int x5, .int x6, .int x7, .int x8, .int x9, .str x10, .int x11, .int x12, .int b0.1, .int b0.2.1, .int b0.2.2, .int b1.1, .int b1.2.1, .int b1.2.2, .int b2.1, .int b2.2.1, .int b2.2.2, .int b3.1, .int b3.2.1, .int b3.2.2.1, .int b3.2.2.2] = _
    refine den_ask (ps := [.int b1.1, .int b1.2.1, .int b1.2.2, .int b3.1, .int b3.2.1, .int b3.2.2.1, .int b3.2.2.2]) (rr := place_Box.rr) (G := place_Box.f K b1.1 b1.2.1 b1.2.2 b3.1 b3.2.1 b3.2.2.1 b3.2.2.2) (by rw [h83]; exact place_Box.ap K b1.1 b1.2.1 b1.2.2 b3.1 b3.2.1 b3.2.2.1 b3.2.2.2) rfl rfl fun b4 => ?_
    show Sy.den F K _ _ [.str p0, .int p1, .int p2, .int p3, .int p4, .int p5, .int p6, .int p7, .int p8, .int p9, .int p10, .int p11, .int p12, .int p13, .oth p14.1, .oth p15.1, .int p16, .int p17, .int p18, .int p19, .int p20, .int p21, .int p22, .int p23, .int p24, .int p25, .int p26, .int p27, .int p28, .int p29, .int p30, .int p31, .int p32, .int p33, .int p34, .lst 10 (p35.map rw_iiiiiiiiis.en), .lst 10 (p36.map rw_iiiiiiiiis.en), .int p37, .int p38, .int p39, .int p40, .int p41, .int p42, .int p43, .bool p44, .bool p45, .lst 10 (p46.map rw_iiiiiiiiis.en), .int x0, .int x1, .int x2, .int x3, .int x4, .int x5, .int x6, .int x7, .int x8, .int x9, .str x10, .int x11, .int x12, .int b0.1, .int b0.2.1, .int b0.2.2, .int b1.1, .int b1.2.1, .int b1.2.2, .int b2.1, .int b2.2.1, .int b2.2.2, .int b3.1, .int b3.2.1, .int b3.2.2.1, .int b3.2.2.2, .int b4.1, .int b4.2.1, .int b4.2.2.1, .int b4.2.2.2] = _
    exact den_ret rfl
    refine den_ask (ps := [.int x3, .int x4, .int x5, .int p41, .int p42, .int p43]) (rr := place_Then.rr) (G := place_Then.f K x3 x4 x5 p41 p42 p43) (by rw [h80]; exact place_Then.ap K x3 x4 x5 p41 p42 p43) rfl rfl fun b0 => ?_
    show Sy.den F K _ _ [.str p0, .int p1, .int p2, .int p3, .int p4, .int p5, .int p6, .int p7, .int p8, .int p9, .int p10, .int p11, .int p12, .int p13, .oth p14.1, .oth p15.1, .int p16, .int p17, .int p18, .int p19, .int p20, .int p21, .int p22, .int p23, .int p24, .int p25, .int p26, .int p27, .int p28, .int p29, .int p30, .int p31, .int p32, .int p33, .int p34, .lst 10 (p35.map rw_iiiiiiiiis.en), .lst 10 (p36.map rw_iiiiiiiiis.en), .int p37, .int p38, .int p39, .int p40, .int p41, .int p42, .int p43, .bool p44, .bool p45, .lst 10 (p46.map rw_iiiiiiiiis.en), .int x0, .int x1, .int x2, .int x3, .int x4, .int x5, .int x6, .int x7, .int x8, .int x9, .str x10, .int x11, .int x12, .int b0.1, .int b0.2.1, .int b0.2.2] = _
    refine den_ask (ps := [.int x6, .int x7, .int x8, .int x9, .int p37, .int p38, .int p39, .int p40]) (rr := box_Meet.rr) (G := box_Meet.f x6 x7 x8 x9 p37 p38 p39 p40) (by rw [h89]; exact box_Meet.ap x6 x7 x8 x9 p37 p38 p39 p40) rfl rfl fun b1 => ?_
    show Sy.den F K _ _ [.str p0, .int p1, .int p2, .int p3, .int p4, .int p5, .int p6, .int p7, .int p8, .int p9, .int p10, .int p11, .int p12, .int p13, .oth p14.1, .oth p15.1, .int p16, .int p17, .int p18, .int p19, .int p20, .int p21, .int p22, .int p23, .int p24, .int p25, .int p26, .int p27, .int p28, .int p29, .int p30, .int p31, .int p32, .int p33, .int p34, .lst 10 (p35.map rw_iiiiiiiiis.en), .lst 10 (p36.map rw_iiiiiiiiis.en), .int p37, .int p38, .int p39, .int p40, .int p41, .int p42, .int p43, .bool p44, .bool p45, .lst 10 (p46.map rw_iiiiiiiiis.en), .int x0, .int x1, .int x2, .int x3, .int x4, .int x5, .int x6, .int x7, .int x8, .int x9, .str x10, .int x11, .int x12, .int b0.1, .int b0.2.1, .int b0.2.2, .int b1.1, .int b1.2.1, .int b1.2.2.1, .int b1.2.2.2] = _
    refine den_ask (ps := [.int p41, .int p42, .int p43, .int b1.1, .int b1.2.1, .int b1.2.2.1, .int b1.2.2.2]) (rr := place_Box.rr) (G := place_Box.f K p41 p42 p43 b1.1 b1.2.1 b1.2.2.1 b1.2.2.2) (by rw [h83]; exact place_Box.ap K p41 p42 p43 b1.1 b1.2.1 b1.2.2.1 b1.2.2.2) rfl rfl fun b2 => ?_
    show Sy.den F K _ _ [.str p0, .int p1, .int p2, .int p3, .int p4, .int p5, .int p6, .int p7, .int p8, .int p9, .int p10, .int p11, .int p12, .int p13, .oth p14.1, .oth p15.1, .int p16, .int p17, .int p18, .int p19, .int p20, .int p21, .int p22, .int p23, .int p24, .int p25, .int p26, .int p27, .int p28, .int p29, .int p30, .int p31, .int p32, .int p33, .int p34, .lst 10 (p35.map rw_iiiiiiiiis.en), .lst 10 (p36.map rw_iiiiiiiiis.en), .int p37, .int p38, .int p39, .int p40, .int p41, .int p42, .int p43, .bool p44, .bool p45, .lst 10 (p46.map rw_iiiiiiiiis.en), .int x0, .int x1, .int x2, .int x3, .int x4, .int x5, .int x6, .int x7, .int x8, .int x9, .str x10, .int x11, .int x12, .int b0.1, .int b0.2.1, .int b0.2.2, .int b1.1, .int b1.2.1, .int b1.2.2.1, .int b1.2.2.2, .int b2.1, .int b2.2.1, .int b2.2.2.1, .int b2.2.2.2] = _
    exact den_ret rfl
theorem face_Of.l0_den (F : FnE) (K : Nat) (h41 : F 41 = layer_Up.app) (h53 : F 53 = face_On.app K) (h69 : F 69 = place_FlipX.app) (h80 : F 80 = place_Then.app K) (h83 : F 83 = place_Box.app K) (h89 : F 89 = box_Meet.app) (Js : List (List PD → Option (List PD))) (p0 : ByteArray) (p1 : Int) (p2 : Int) (p3 : Int) (p4 : Int) (p5 : Int) (p6 : Int) (p7 : Int) (p8 : Int) (p9 : Int) (p10 : Int) (p11 : Int) (p12 : Int) (p13 : Int) (p14 : Ov) (p15 : Ov) (p16 : Int) (p17 : Int) (p18 : Int) (p19 : Int) (p20 : Int) (p21 : Int) (p22 : Int) (p23 : Int) (p24 : Int) (p25 : Int) (p26 : Int) (p27 : Int) (p28 : Int) (p29 : Int) (p30 : Int) (p31 : Int) (p32 : Int) (p33 : Int) (p34 : Int) (p35 : List (Int × Int × Int × Int × Int × Int × Int × Int × Int × ByteArray)) (p36 : List (Int × Int × Int × Int × Int × Int × Int × Int × Int × ByteArray)) (p37 : Int) (p38 : Int) (p39 : Int) (p40 : Int) (p41 : Int) (p42 : Int) (p43 : Int) (p44 : Bool) (p45 : Bool) (p46 : List (Int × Int × Int × Int × Int × Int × Int × Int × Int × ByteArray)) : ∀ (k : Nat) (x0 : Int) (x1 : Int) (x2 : Int) (x3 : Int) (x4 : Int) (x5 : Int) (x6 : Int) (x7 : Int) (x8 : Int) (x9 : Int) (x10 : ByteArray) (x11 : Int) (x12 : Int), iterF (fun J ρ' => den F K face_Of.b0 (J :: Js) ρ') k [.str p0, .int p1, .int p2, .int p3, .int p4, .int p5, .int p6, .int p7, .int p8, .int p9, .int p10, .int p11, .int p12, .int p13, .oth p14.1, .oth p15.1, .int p16, .int p17, .int p18, .int p19, .int p20, .int p21, .int p22, .int p23, .int p24, .int p25, .int p26, .int p27, .int p28, .int p29, .int p30, .int p31, .int p32, .int p33, .int p34, .lst 10 (p35.map rw_iiiiiiiiis.en), .lst 10 (p36.map rw_iiiiiiiiis.en), .int p37, .int p38, .int p39, .int p40, .int p41, .int p42, .int p43, .bool p44, .bool p45, .lst 10 (p46.map rw_iiiiiiiiis.en), .int x0, .int x1, .int x2, .int x3, .int x4, .int x5, .int x6, .int x7, .int x8, .int x9, .str x10, .int x11, .int x12] = (face_Of.l0 K p4 p37 p38 p39 p40 p41 p42 p43 p44 p46 k x0 x1 x2 x3 x4 x5 x6 x7 x8 x9 x10 x11 x12).map face_Of.rr.en := by
  intro k
  induction k with
  | zero => intros; rfl
  | succ k ih =>
    intro x0 x1 x2 x3 x4 x5 x6 x7 x8 x9 x10 x11 x12
    show Sy.den F K face_Of.b0 (iterF (fun J ρ' => Sy.den F K face_Of.b0 (J :: Js) ρ') k :: Js) [.str p0, .int p1, .int p2, .int p3, .int p4, .int p5, .int p6, .int p7, .int p8, .int p9, .int p10, .int p11, .int p12, .int p13, .oth p14.1, .oth p15.1, .int p16, .int p17, .int p18, .int p19, .int p20, .int p21, .int p22, .int p23, .int p24, .int p25, .int p26, .int p27, .int p28, .int p29, .int p30, .int p31, .int p32, .int p33, .int p34, .lst 10 (p35.map rw_iiiiiiiiis.en), .lst 10 (p36.map rw_iiiiiiiiis.en), .int p37, .int p38, .int p39, .int p40, .int p41, .int p42, .int p43, .bool p44, .bool p45, .lst 10 (p46.map rw_iiiiiiiiis.en), .int x0, .int x1, .int x2, .int x3, .int x4, .int x5, .int x6, .int x7, .int x8, .int x9, .str x10, .int x11, .int x12] = _
    revert ih
    generalize iterF (fun J ρ' => Sy.den F K face_Of.b0 (J :: Js) ρ') k = J0
    intro ih
    rw [face_Of.l0]
    show Sy.den F K face_Of.b0 _ [.str p0, .int p1, .int p2, .int p3, .int p4, .int p5, .int p6, .int p7, .int p8, .int p9, .int p10, .int p11, .int p12, .int p13, .oth p14.1, .oth p15.1, .int p16, .int p17, .int p18, .int p19, .int p20, .int p21, .int p22, .int p23, .int p24, .int p25, .int p26, .int p27, .int p28, .int p29, .int p30, .int p31, .int p32, .int p33, .int p34, .lst 10 (p35.map rw_iiiiiiiiis.en), .lst 10 (p36.map rw_iiiiiiiiis.en), .int p37, .int p38, .int p39, .int p40, .int p41, .int p42, .int p43, .bool p44, .bool p45, .lst 10 (p46.map rw_iiiiiiiiis.en), .int x0, .int x1, .int x2, .int x3, .int x4, .int x5, .int x6, .int x7, .int x8, .int x9, .str x10, .int x11, .int x12] = _
    unfold face_Of.b0
    refine den_ite (b := (decide (x0 < ((p46.length : Nat) : Int)))) (by simp only [pds, PC.pd, E.ev, B.ev, SE.ev, LE.rows, lensEv, kSl_eq, kPt_eq, ov_prop, List.getElem?_cons_zero, List.getElem?_cons_succ, List.length_map, Nat.add_zero, Nat.zero_add, Option.bind_some, Option.map_some, if_true, Subtype.eta, mxi, mni, List.map_append, List.map_cons, List.map_nil, List.cons_append, List.nil_append, List.append_nil]) ?_ ?_
    refine den_ite (b := (decide (0 ≤ x0))) rfl ?_ ?_
    refine den_get (L := p46) (rw := rw_iiiiiiiiis) rfl rfl rfl fun b0 => ?_
    show Sy.den F K _ _ [.str p0, .int p1, .int p2, .int p3, .int p4, .int p5, .int p6, .int p7, .int p8, .int p9, .int p10, .int p11, .int p12, .int p13, .oth p14.1, .oth p15.1, .int p16, .int p17, .int p18, .int p19, .int p20, .int p21, .int p22, .int p23, .int p24, .int p25, .int p26, .int p27, .int p28, .int p29, .int p30, .int p31, .int p32, .int p33, .int p34, .lst 10 (p35.map rw_iiiiiiiiis.en), .lst 10 (p36.map rw_iiiiiiiiis.en), .int p37, .int p38, .int p39, .int p40, .int p41, .int p42, .int p43, .bool p44, .bool p45, .lst 10 (p46.map rw_iiiiiiiiis.en), .int x0, .int x1, .int x2, .int x3, .int x4, .int x5, .int x6, .int x7, .int x8, .int x9, .str x10, .int x11, .int x12, .int b0.1, .int b0.2.1, .int b0.2.2.1, .int b0.2.2.2.1, .int b0.2.2.2.2.1, .int b0.2.2.2.2.2.1, .int b0.2.2.2.2.2.2.1, .int b0.2.2.2.2.2.2.2.1, .int b0.2.2.2.2.2.2.2.2.1, .str b0.2.2.2.2.2.2.2.2.2] = _
    refine den_ite (b := (b0.1 == 1)) rfl ?_ ?_
    refine den_back (vs := [.int (wrap64 (x0 + 1)), .int b0.1, .int b0.2.1, .int b0.2.2.1, .int b0.2.2.2.1, .int b0.2.2.2.2.1, .int b0.2.2.2.2.2.1, .int b0.2.2.2.2.2.2.1, .int b0.2.2.2.2.2.2.2.1, .int b0.2.2.2.2.2.2.2.2.1, .str b0.2.2.2.2.2.2.2.2.2, .int (wrap64 (x11 + 1)), .int x12]) rfl rfl ?_
    exact ih (wrap64 (x0 + 1)) b0.1 b0.2.1 b0.2.2.1 b0.2.2.2.1 b0.2.2.2.2.1 b0.2.2.2.2.2.1 b0.2.2.2.2.2.2.1 b0.2.2.2.2.2.2.2.1 b0.2.2.2.2.2.2.2.2.1 b0.2.2.2.2.2.2.2.2.2 (wrap64 (x11 + 1)) x12
    refine den_back (vs := [.int (wrap64 (x0 + 1)), .int x1, .int x2, .int x3, .int x4, .int x5, .int x6, .int x7, .int x8, .int x9, .str x10, .int x11, .int (wrap64 (x12 + 1))]) rfl rfl ?_
    exact ih (wrap64 (x0 + 1)) x1 x2 x3 x4 x5 x6 x7 x8 x9 x10 x11 (wrap64 (x12 + 1))
    exact den_bad _ _ _ _ _
    refine den_ite (b := (!(x11 == 1))) rfl ?_ ?_
    exact den_ret rfl
    refine den_ite (b := (!p44)) rfl ?_ ?_
    refine den_ask (ps := [.int p4]) (rr := place_FlipX.rr) (G := place_FlipX.f p4) (by rw [h69]; exact place_FlipX.ap p4) rfl rfl fun b0 => ?_
    show Sy.den F K _ _ [.str p0, .int p1, .int p2, .int p3, .int p4, .int p5, .int p6, .int p7, .int p8, .int p9, .int p10, .int p11, .int p12, .int p13, .oth p14.1, .oth p15.1, .int p16, .int p17, .int p18, .int p19, .int p20, .int p21, .int p22, .int p23, .int p24, .int p25, .int p26, .int p27, .int p28, .int p29, .int p30, .int p31, .int p32, .int p33, .int p34, .lst 10 (p35.map rw_iiiiiiiiis.en), .lst 10 (p36.map rw_iiiiiiiiis.en), .int p37, .int p38, .int p39, .int p40, .int p41, .int p42, .int p43, .bool p44, .bool p45, .lst 10 (p46.map rw_iiiiiiiiis.en), .int x0, .int x1, .int x2, .int x3, .int x4, .int x5, .int x6, .int x7, .int x8, .int x9, .str x10, .int x11, .int x12, .int b0.1, .int b0.2.1, .int b0.2.2] = _
    refine den_ask (ps := [.int p41, .int p42, .int p43, .int b0.1, .int b0.2.1, .int b0.2.2]) (rr := place_Then.rr) (G := place_Then.f K p41 p42 p43 b0.1 b0.2.1 b0.2.2) (by rw [h80]; exact place_Then.ap K p41 p42 p43 b0.1 b0.2.1 b0.2.2) rfl rfl fun b1 => ?_
    show Sy.den F K _ _ [.str p0, .int p1, .int p2, .int p3, .int p4, .int p5, .int p6, .int p7, .int p8, .int p9, .int p10, .int p11, .int p12, .int p13, .oth p14.1, .oth p15.1, .int p16, .int p17, .int p18, .int p19, .int p20, .int p21, .int p22, .int p23, .int p24, .int p25, .int p26, .int p27, .int p28, .int p29, .int p30, .int p31, .int p32, .int p33, .int p34, .lst 10 (p35.map rw_iiiiiiiiis.en), .lst 10 (p36.map rw_iiiiiiiiis.en), .int p37, .int p38, .int p39, .int p40, .int p41, .int p42, .int p43, .bool p44, .bool p45, .lst 10 (p46.map rw_iiiiiiiiis.en), .int x0, .int x1, .int x2, .int x3, .int x4, .int x5, .int x6, .int x7, .int x8, .int x9, .str x10, .int x11, .int x12, .int b0.1, .int b0.2.1, .int b0.2.2, .int b1.1, .int b1.2.1, .int b1.2.2] = _
    refine den_ask (ps := [.int x3, .int x4, .int x5, .int b1.1, .int b1.2.1, .int b1.2.2]) (rr := place_Then.rr) (G := place_Then.f K x3 x4 x5 b1.1 b1.2.1 b1.2.2) (by rw [h80]; exact place_Then.ap K x3 x4 x5 b1.1 b1.2.1 b1.2.2) rfl rfl fun b2 => ?_
    show Sy.den F K _ _ [.str p0, .int p1, .int p2, .int p3, .int p4, .int p5, .int p6, .int p7, .int p8, .int p9, .int p10, .int p11, .int p12, .int p13, .oth p14.1, .oth p15.1, .int p16, .int p17, .int p18, .int p19, .int p20, .int p21, .int p22, .int p23, .int p24, .int p25, .int p26, .int p27, .int p28, .int p29, .int p30, .int p31, .int p32, .int p33, .int p34, .lst 10 (p35.map rw_iiiiiiiiis.en), .lst 10 (p36.map rw_iiiiiiiiis.en), .int p37, .int p38, .int p39, .int p40, .int p41, .int p42, .int p43, .bool p44, .bool p45, .lst 10 (p46.map rw_iiiiiiiiis.en), .int x0, .int x1, .int x2, .int x3, .int x4, .int x5, .int x6, .int x7, .int x8, .int x9, .str x10, .int x11, .int x12, .int b0.1, .int b0.2.1, .int b0.2.2, .int b1.1, .int b1.2.1, .int b1.2.2, .int b2.1, .int b2.2.1, .int b2.2.2] = _
    refine den_ask (ps := [.int x6, .int x7, .int x8, .int x9, .int p37, .int p38, .int p39, .int p40]) (rr := box_Meet.rr) (G := box_Meet.f x6 x7 x8 x9 p37 p38 p39 p40) (by rw [h89]; exact box_Meet.ap x6 x7 x8 x9 p37 p38 p39 p40) rfl rfl fun b3 => ?_
    show Sy.den F K _ _ [.str p0, .int p1, .int p2, .int p3, .int p4, .int p5, .int p6, .int p7, .int p8, .int p9, .int p10, .int p11, .int p12, .int p13, .oth p14.1, .oth p15.1, .int p16, .int p17, .int p18, .int p19, .int p20, .int p21, .int p22, .int p23, .int p24, .int p25, .int p26, .int p27, .int p28, .int p29, .int p30, .int p31, .int p32, .int p33, .int p34, .lst 10 (p35.map rw_iiiiiiiiis.en), .lst 10 (p36.map rw_iiiiiiiiis.en), .int p37, .int p38, .int p39, .int p40, .int p41, .int p42, .int p43, .bool p44, .bool p45, .lst 10 (p46.map rw_iiiiiiiiis.en), .int x0, .int x1, .int x2, .int x3, .int x4, .int x5, .int x6, .int x7, .int x8, .int x9, .str x10, .int x11, .int x12, .int b0.1, .int b0.2.1, .int b0.2.2, .int b1.1, .int b1.2.1, .int b1.2.2, .int b2.1, .int b2.2.1, .int b2.2.2, .int b3.1, .int b3.2.1, .int b3.2.2.1, .int b3.2.2.2] = _
    refine den_ask (ps := [.int b1.1, .int b1.2.1, .int b1.2.2, .int b3.1, .int b3.2.1, .int b3.2.2.1, .int b3.2.2.2]) (rr := place_Box.rr) (G := place_Box.f K b1.1 b1.2.1 b1.2.2 b3.1 b3.2.1 b3.2.2.1 b3.2.2.2) (by rw [h83]; exact place_Box.ap K b1.1 b1.2.1 b1.2.2 b3.1 b3.2.1 b3.2.2.1 b3.2.2.2) rfl rfl fun b4 => ?_
    show Sy.den F K _ _ [.str p0, .int p1, .int p2, .int p3, .int p4, .int p5, .int p6, .int p7, .int p8, .int p9, .int p10, .int p11, .int p12, .int p13, .oth p14.1, .oth p15.1, .int p16, .int p17, .int p18, .int p19, .int p20, .int p21, .int p22, .int p23, .int p24, .int p25, .int p26, .int p27, .int p28, .int p29, .int p30, .int p31, .int p32, .int p33, .int p34, .lst 10 (p35.map rw_iiiiiiiiis.en), .lst 10 (p36.map rw_iiiiiiiiis.en), .int p37, .int p38, .int p39, .int p40, .int p41, .int p42, .int p43, .bool p44, .bool p45, .lst 10 (p46.map rw_iiiiiiiiis.en), .int x0, .int x1, .int x2, .int x3, .int x4, .int x5, .int x6, .int x7, .int x8, .int x9, .str x10, .int x11, .int x12, .int b0.1, .int b0.2.1, .int b0.2.2, .int b1.1, .int b1.2.1, .int b1.2.2, .int b2.1, .int b2.2.1, .int b2.2.2, .int b3.1, .int b3.2.1, .int b3.2.2.1, .int b3.2.2.2, .int b4.1, .int b4.2.1, .int b4.2.2.1, .int b4.2.2.2] = _
    exact den_ret rfl
    refine den_ask (ps := [.int x3, .int x4, .int x5, .int p41, .int p42, .int p43]) (rr := place_Then.rr) (G := place_Then.f K x3 x4 x5 p41 p42 p43) (by rw [h80]; exact place_Then.ap K x3 x4 x5 p41 p42 p43) rfl rfl fun b0 => ?_
    show Sy.den F K _ _ [.str p0, .int p1, .int p2, .int p3, .int p4, .int p5, .int p6, .int p7, .int p8, .int p9, .int p10, .int p11, .int p12, .int p13, .oth p14.1, .oth p15.1, .int p16, .int p17, .int p18, .int p19, .int p20, .int p21, .int p22, .int p23, .int p24, .int p25, .int p26, .int p27, .int p28, .int p29, .int p30, .int p31, .int p32, .int p33, .int p34, .lst 10 (p35.map rw_iiiiiiiiis.en), .lst 10 (p36.map rw_iiiiiiiiis.en), .int p37, .int p38, .int p39, .int p40, .int p41, .int p42, .int p43, .bool p44, .bool p45, .lst 10 (p46.map rw_iiiiiiiiis.en), .int x0, .int x1, .int x2, .int x3, .int x4, .int x5, .int x6, .int x7, .int x8, .int x9, .str x10, .int x11, .int x12, .int b0.1, .int b0.2.1, .int b0.2.2] = _
    refine den_ask (ps := [.int x6, .int x7, .int x8, .int x9, .int p37, .int p38, .int p39, .int p40]) (rr := box_Meet.rr) (G := box_Meet.f x6 x7 x8 x9 p37 p38 p39 p40) (by rw [h89]; exact box_Meet.ap x6 x7 x8 x9 p37 p38 p39 p40) rfl rfl fun b1 => ?_
    show Sy.den F K _ _ [.str p0, .int p1, .int p2, .int p3, .int p4, .int p5, .int p6, .int p7, .int p8, .int p9, .int p10, .int p11, .int p12, .int p13, .oth p14.1, .oth p15.1, .int p16, .int p17, .int p18, .int p19, .int p20, .int p21, .int p22, .int p23, .int p24, .int p25, .int p26, .int p27, .int p28, .int p29, .int p30, .int p31, .int p32, .int p33, .int p34, .lst 10 (p35.map rw_iiiiiiiiis.en), .lst 10 (p36.map rw_iiiiiiiiis.en), .int p37, .int p38, .int p39, .int p40, .int p41, .int p42, .int p43, .bool p44, .bool p45, .lst 10 (p46.map rw_iiiiiiiiis.en), .int x0, .int x1, .int x2, .int x3, .int x4, .int x5, .int x6, .int x7, .int x8, .int x9, .str x10, .int x11, .int x12, .int b0.1, .int b0.2.1, .int b0.2.2, .int b1.1, .int b1.2.1, .int b1.2.2.1, .int b1.2.2.2] = _
    refine den_ask (ps := [.int p41, .int p42, .int p43, .int b1.1, .int b1.2.1, .int b1.2.2.1, .int b1.2.2.2]) (rr := place_Box.rr) (G := place_Box.f K p41 p42 p43 b1.1 b1.2.1 b1.2.2.1 b1.2.2.2) (by rw [h83]; exact place_Box.ap K p41 p42 p43 b1.1 b1.2.1 b1.2.2.1 b1.2.2.2) rfl rfl fun b2 => ?_
    show Sy.den F K _ _ [.str p0, .int p1, .int p2, .int p3, .int p4, .int p5, .int p6, .int p7, .int p8, .int p9, .int p10, .int p11, .int p12, .int p13, .oth p14.1, .oth p15.1, .int p16, .int p17, .int p18, .int p19, .int p20, .int p21, .int p22, .int p23, .int p24, .int p25, .int p26, .int p27, .int p28, .int p29, .int p30, .int p31, .int p32, .int p33, .int p34, .lst 10 (p35.map rw_iiiiiiiiis.en), .lst 10 (p36.map rw_iiiiiiiiis.en), .int p37, .int p38, .int p39, .int p40, .int p41, .int p42, .int p43, .bool p44, .bool p45, .lst 10 (p46.map rw_iiiiiiiiis.en), .int x0, .int x1, .int x2, .int x3, .int x4, .int x5, .int x6, .int x7, .int x8, .int x9, .str x10, .int x11, .int x12, .int b0.1, .int b0.2.1, .int b0.2.2, .int b1.1, .int b1.2.1, .int b1.2.2.1, .int b1.2.2.2, .int b2.1, .int b2.2.1, .int b2.2.2.1, .int b2.2.2.2] = _
    exact den_ret rfl
theorem face_Of.den (F : FnE) (K : Nat) (h41 : F 41 = layer_Up.app) (h53 : F 53 = face_On.app K) (h69 : F 69 = place_FlipX.app) (h80 : F 80 = place_Then.app K) (h83 : F 83 = place_Box.app K) (h89 : F 89 = box_Meet.app) (a0_0 : ByteArray) (a0_1 : Int) (a0_2 : Int) (a0_3 : Int) (a0_4 : Int) (a0_5 : Int) (a0_6 : Int) (a0_7 : Int) (a0_8 : Int) (a0_9 : Int) (a0_10 : Int) (a0_11 : Int) (a0_12 : Int) (a0_13 : Int) (a0_14 : Ov) (a0_15 : Ov) (a0_16 : Int) (a0_17 : Int) (a0_18 : Int) (a0_19 : Int) (a0_20 : Int) (a0_21 : Int) (a0_22 : Int) (a0_23 : Int) (a0_24 : Int) (a0_25 : Int) (a0_26 : Int) (a0_27 : Int) (a0_28 : Int) (a0_29 : Int) (a0_30 : Int) (a0_31 : Int) (a0_32 : Int) (a1_0 : Int) (a1_1 : Int) (a1_2 : List (Int × Int × Int × Int × Int × Int × Int × Int × Int × ByteArray)) (a1_3 : List (Int × Int × Int × Int × Int × Int × Int × Int × Int × ByteArray)) (a2_0 : Int) (a2_1 : Int) (a2_2 : Int) (a2_3 : Int) (a2_4 : Int) (a2_5 : Int) (a2_6 : Int) (a3 : Bool) : Sy.den F K face_Of.t [] [.str a0_0, .int a0_1, .int a0_2, .int a0_3, .int a0_4, .int a0_5, .int a0_6, .int a0_7, .int a0_8, .int a0_9, .int a0_10, .int a0_11, .int a0_12, .int a0_13, .oth a0_14.1, .oth a0_15.1, .int a0_16, .int a0_17, .int a0_18, .int a0_19, .int a0_20, .int a0_21, .int a0_22, .int a0_23, .int a0_24, .int a0_25, .int a0_26, .int a0_27, .int a0_28, .int a0_29, .int a0_30, .int a0_31, .int a0_32, .int a1_0, .int a1_1, .lst 10 (a1_2.map rw_iiiiiiiiis.en), .lst 10 (a1_3.map rw_iiiiiiiiis.en), .int a2_0, .int a2_1, .int a2_2, .int a2_3, .int a2_4, .int a2_5, .int a2_6, .bool a3] = (face_Of.f K a0_0 a0_1 a0_2 a0_3 a0_4 a0_5 a0_6 a0_7 a0_8 a0_9 a0_10 a0_11 a0_12 a0_13 a0_14 a0_15 a0_16 a0_17 a0_18 a0_19 a0_20 a0_21 a0_22 a0_23 a0_24 a0_25 a0_26 a0_27 a0_28 a0_29 a0_30 a0_31 a0_32 a1_0 a1_1 a1_2 a1_3 a2_0 a2_1 a2_2 a2_3 a2_4 a2_5 a2_6 a3).map face_Of.rr.en := by
  unfold face_Of.t face_Of.f
  refine den_ask (ps := [.int a2_0, .int a2_1, .int a2_2, .int a2_3, .int a2_4, .int a2_5, .int a2_6]) (rr := layer_Up.rr) (G := layer_Up.f a2_0 a2_1 a2_2 a2_3 a2_4 a2_5 a2_6) (by rw [h41]; exact layer_Up.ap a2_0 a2_1 a2_2 a2_3 a2_4 a2_5 a2_6) rfl rfl fun b0 => ?_
  show Sy.den F K _ _ [.str a0_0, .int a0_1, .int a0_2, .int a0_3, .int a0_4, .int a0_5, .int a0_6, .int a0_7, .int a0_8, .int a0_9, .int a0_10, .int a0_11, .int a0_12, .int a0_13, .oth a0_14.1, .oth a0_15.1, .int a0_16, .int a0_17, .int a0_18, .int a0_19, .int a0_20, .int a0_21, .int a0_22, .int a0_23, .int a0_24, .int a0_25, .int a0_26, .int a0_27, .int a0_28, .int a0_29, .int a0_30, .int a0_31, .int a0_32, .int a1_0, .int a1_1, .lst 10 (a1_2.map rw_iiiiiiiiis.en), .lst 10 (a1_3.map rw_iiiiiiiiis.en), .int a2_0, .int a2_1, .int a2_2, .int a2_3, .int a2_4, .int a2_5, .int a2_6, .bool a3, .bool b0] = _
  refine den_ite (b := (b0 == a3)) rfl ?_ ?_
  refine den_ask (ps := [.lst 10 (a1_2.map rw_iiiiiiiiis.en), .int a2_0, .int a2_1, .int a2_2, .int a2_3]) (rr := face_On.rr) (G := face_On.f K a1_2 a2_0 a2_1 a2_2 a2_3) (by rw [h53]; exact face_On.ap K a1_2 a2_0 a2_1 a2_2 a2_3) (by simp only [pds, PC.pd, E.ev, B.ev, SE.ev, LE.rows, lensEv, kSl_eq, kPt_eq, ov_prop, List.getElem?_cons_zero, List.getElem?_cons_succ, List.length_map, Nat.add_zero, Nat.zero_add, Option.bind_some, Option.map_some, if_true, Subtype.eta, mxi, mni, List.map_append, List.map_cons, List.map_nil, List.cons_append, List.nil_append, List.append_nil]) rfl fun b1 => ?_
  show Sy.den F K _ _ [.str a0_0, .int a0_1, .int a0_2, .int a0_3, .int a0_4, .int a0_5, .int a0_6, .int a0_7, .int a0_8, .int a0_9, .int a0_10, .int a0_11, .int a0_12, .int a0_13, .oth a0_14.1, .oth a0_15.1, .int a0_16, .int a0_17, .int a0_18, .int a0_19, .int a0_20, .int a0_21, .int a0_22, .int a0_23, .int a0_24, .int a0_25, .int a0_26, .int a0_27, .int a0_28, .int a0_29, .int a0_30, .int a0_31, .int a0_32, .int a1_0, .int a1_1, .lst 10 (a1_2.map rw_iiiiiiiiis.en), .lst 10 (a1_3.map rw_iiiiiiiiis.en), .int a2_0, .int a2_1, .int a2_2, .int a2_3, .int a2_4, .int a2_5, .int a2_6, .bool a3, .bool b0, .lst 10 (b1.map rw_iiiiiiiiis.en)] = _
  refine den_loop (vs := [.int 0, .int 0, .int 0, .int 0, .int 0, .int 0, .int 0, .int 0, .int 0, .int 0, .str (⟨#[]⟩ : ByteArray), .int 0, .int 0]) rfl ?_
  exact face_Of.l0_den F K h41 h53 h69 h80 h83 h89 [] a0_0 a0_1 a0_2 a0_3 a0_4 a0_5 a0_6 a0_7 a0_8 a0_9 a0_10 a0_11 a0_12 a0_13 a0_14 a0_15 a0_16 a0_17 a0_18 a0_19 a0_20 a0_21 a0_22 a0_23 a0_24 a0_25 a0_26 a0_27 a0_28 a0_29 a0_30 a0_31 a0_32 a1_0 a1_1 a1_2 a1_3 a2_0 a2_1 a2_2 a2_3 a2_4 a2_5 a2_6 a3 b0 b1 K 0 0 0 0 0 0 0 0 0 0 (⟨#[]⟩ : ByteArray) 0 0
  refine den_ask (ps := [.lst 10 (a1_3.map rw_iiiiiiiiis.en), .int a2_0, .int a2_1, .int a2_2, .int a2_3]) (rr := face_On.rr) (G := face_On.f K a1_3 a2_0 a2_1 a2_2 a2_3) (by rw [h53]; exact face_On.ap K a1_3 a2_0 a2_1 a2_2 a2_3) (by simp only [pds, PC.pd, E.ev, B.ev, SE.ev, LE.rows, lensEv, kSl_eq, kPt_eq, ov_prop, List.getElem?_cons_zero, List.getElem?_cons_succ, List.length_map, Nat.add_zero, Nat.zero_add, Option.bind_some, Option.map_some, if_true, Subtype.eta, mxi, mni, List.map_append, List.map_cons, List.map_nil, List.cons_append, List.nil_append, List.append_nil]) rfl fun b1 => ?_
  show Sy.den F K _ _ [.str a0_0, .int a0_1, .int a0_2, .int a0_3, .int a0_4, .int a0_5, .int a0_6, .int a0_7, .int a0_8, .int a0_9, .int a0_10, .int a0_11, .int a0_12, .int a0_13, .oth a0_14.1, .oth a0_15.1, .int a0_16, .int a0_17, .int a0_18, .int a0_19, .int a0_20, .int a0_21, .int a0_22, .int a0_23, .int a0_24, .int a0_25, .int a0_26, .int a0_27, .int a0_28, .int a0_29, .int a0_30, .int a0_31, .int a0_32, .int a1_0, .int a1_1, .lst 10 (a1_2.map rw_iiiiiiiiis.en), .lst 10 (a1_3.map rw_iiiiiiiiis.en), .int a2_0, .int a2_1, .int a2_2, .int a2_3, .int a2_4, .int a2_5, .int a2_6, .bool a3, .bool b0, .lst 10 (b1.map rw_iiiiiiiiis.en)] = _
  refine den_loop (vs := [.int 0, .int 0, .int 0, .int 0, .int 0, .int 0, .int 0, .int 0, .int 0, .int 0, .str (⟨#[]⟩ : ByteArray), .int 0, .int 0]) rfl ?_
  exact face_Of.l1_den F K h41 h53 h69 h80 h83 h89 [] a0_0 a0_1 a0_2 a0_3 a0_4 a0_5 a0_6 a0_7 a0_8 a0_9 a0_10 a0_11 a0_12 a0_13 a0_14 a0_15 a0_16 a0_17 a0_18 a0_19 a0_20 a0_21 a0_22 a0_23 a0_24 a0_25 a0_26 a0_27 a0_28 a0_29 a0_30 a0_31 a0_32 a1_0 a1_1 a1_2 a1_3 a2_0 a2_1 a2_2 a2_3 a2_4 a2_5 a2_6 a3 b0 b1 K 0 0 0 0 0 0 0 0 0 0 (⟨#[]⟩ : ByteArray) 0 0
theorem face_Of.ok (F : FnE) (K : Nat) (h41 : F 41 = layer_Up.app) (h53 : F 53 = face_On.app K) (h69 : F 69 = place_FlipX.app) (h80 : F 80 = place_Then.app K) (h83 : F 83 = place_Box.app K) (h89 : F 89 = box_Meet.app) (ps r : List PD) (h : face_Of.app K ps = some r) : Sy.den F K face_Of.t [] ps = some r := by
  obtain ⟨a, rfl, h2⟩ := app_ok (ra := face_Of.ra) (rr := face_Of.rr) (f := fun x => face_Of.f K x.1 x.2.1 x.2.2.1 x.2.2.2.1 x.2.2.2.2.1 x.2.2.2.2.2.1 x.2.2.2.2.2.2.1 x.2.2.2.2.2.2.2.1 x.2.2.2.2.2.2.2.2.1 x.2.2.2.2.2.2.2.2.2.1 x.2.2.2.2.2.2.2.2.2.2.1 x.2.2.2.2.2.2.2.2.2.2.2.1 x.2.2.2.2.2.2.2.2.2.2.2.2.1 x.2.2.2.2.2.2.2.2.2.2.2.2.2.1 x.2.2.2.2.2.2.2.2.2.2.2.2.2.2.1 x.2.2.2.2.2.2.2.2.2.2.2.2.2.2.2.1 x.2.2.2.2.2.2.2.2.2.2.2.2.2.2.2.2.1 x.2.2.2.2.2.2.2.2.2.2.2.2.2.2.2.2.2.1 x.2.2.2.2.2.2.2.2.2.2.2.2.2.2.2.2.2.2.1 x.2.2.2.2.2.2.2.2.2.2.2.2.2.2.2.2.2.2.2.1 x.2.2.2.2.2.2.2.2.2.2.2.2.2.2.2.2.2.2.2.2.1 x.2.2.2.2.2.2.2.2.2.2.2.2.2.2.2.2.2.2.2.2.2.1 x.2.2.2.2.2.2.2.2.2.2.2.2.2.2.2.2.2.2.2.2.2.2.1 x.2.2.2.2.2.2.2.2.2.2.2.2.2.2.2.2.2.2.2.2.2.2.2.1 x.2.2.2.2.2.2.2.2.2.2.2.2.2.2.2.2.2.2.2.2.2.2.2.2.1 x.2.2.2.2.2.2.2.2.2.2.2.2.2.2.2.2.2.2.2.2.2.2.2.2.2.1 x.2.2.2.2.2.2.2.2.2.2.2.2.2.2.2.2.2.2.2.2.2.2.2.2.2.2.1 x.2.2.2.2.2.2.2.2.2.2.2.2.2.2.2.2.2.2.2.2.2.2.2.2.2.2.2.1 x.2.2.2.2.2.2.2.2.2.2.2.2.2.2.2.2.2.2.2.2.2.2.2.2.2.2.2.2.1 x.2.2.2.2.2.2.2.2.2.2.2.2.2.2.2.2.2.2.2.2.2.2.2.2.2.2.2.2.2.1 x.2.2.2.2.2.2.2.2.2.2.2.2.2.2.2.2.2.2.2.2.2.2.2.2.2.2.2.2.2.2.1 x.2.2.2.2.2.2.2.2.2.2.2.2.2.2.2.2.2.2.2.2.2.2.2.2.2.2.2.2.2.2.2.1 x.2.2.2.2.2.2.2.2.2.2.2.2.2.2.2.2.2.2.2.2.2.2.2.2.2.2.2.2.2.2.2.2.1 x.2.2.2.2.2.2.2.2.2.2.2.2.2.2.2.2.2.2.2.2.2.2.2.2.2.2.2.2.2.2.2.2.2.1 x.2.2.2.2.2.2.2.2.2.2.2.2.2.2.2.2.2.2.2.2.2.2.2.2.2.2.2.2.2.2.2.2.2.2.1 x.2.2.2.2.2.2.2.2.2.2.2.2.2.2.2.2.2.2.2.2.2.2.2.2.2.2.2.2.2.2.2.2.2.2.2.1 x.2.2.2.2.2.2.2.2.2.2.2.2.2.2.2.2.2.2.2.2.2.2.2.2.2.2.2.2.2.2.2.2.2.2.2.2.1 x.2.2.2.2.2.2.2.2.2.2.2.2.2.2.2.2.2.2.2.2.2.2.2.2.2.2.2.2.2.2.2.2.2.2.2.2.2.1 x.2.2.2.2.2.2.2.2.2.2.2.2.2.2.2.2.2.2.2.2.2.2.2.2.2.2.2.2.2.2.2.2.2.2.2.2.2.2.1 x.2.2.2.2.2.2.2.2.2.2.2.2.2.2.2.2.2.2.2.2.2.2.2.2.2.2.2.2.2.2.2.2.2.2.2.2.2.2.2.1 x.2.2.2.2.2.2.2.2.2.2.2.2.2.2.2.2.2.2.2.2.2.2.2.2.2.2.2.2.2.2.2.2.2.2.2.2.2.2.2.2.1 x.2.2.2.2.2.2.2.2.2.2.2.2.2.2.2.2.2.2.2.2.2.2.2.2.2.2.2.2.2.2.2.2.2.2.2.2.2.2.2.2.2.1 x.2.2.2.2.2.2.2.2.2.2.2.2.2.2.2.2.2.2.2.2.2.2.2.2.2.2.2.2.2.2.2.2.2.2.2.2.2.2.2.2.2.2.1 x.2.2.2.2.2.2.2.2.2.2.2.2.2.2.2.2.2.2.2.2.2.2.2.2.2.2.2.2.2.2.2.2.2.2.2.2.2.2.2.2.2.2.2.1 x.2.2.2.2.2.2.2.2.2.2.2.2.2.2.2.2.2.2.2.2.2.2.2.2.2.2.2.2.2.2.2.2.2.2.2.2.2.2.2.2.2.2.2.2) h
  rw [← h2]
  exact face_Of.den F K h41 h53 h69 h80 h83 h89 (a.1) (a.2.1) (a.2.2.1) (a.2.2.2.1) (a.2.2.2.2.1) (a.2.2.2.2.2.1) (a.2.2.2.2.2.2.1) (a.2.2.2.2.2.2.2.1) (a.2.2.2.2.2.2.2.2.1) (a.2.2.2.2.2.2.2.2.2.1) (a.2.2.2.2.2.2.2.2.2.2.1) (a.2.2.2.2.2.2.2.2.2.2.2.1) (a.2.2.2.2.2.2.2.2.2.2.2.2.1) (a.2.2.2.2.2.2.2.2.2.2.2.2.2.1) (a.2.2.2.2.2.2.2.2.2.2.2.2.2.2.1) (a.2.2.2.2.2.2.2.2.2.2.2.2.2.2.2.1) (a.2.2.2.2.2.2.2.2.2.2.2.2.2.2.2.2.1) (a.2.2.2.2.2.2.2.2.2.2.2.2.2.2.2.2.2.1) (a.2.2.2.2.2.2.2.2.2.2.2.2.2.2.2.2.2.2.1) (a.2.2.2.2.2.2.2.2.2.2.2.2.2.2.2.2.2.2.2.1) (a.2.2.2.2.2.2.2.2.2.2.2.2.2.2.2.2.2.2.2.2.1) (a.2.2.2.2.2.2.2.2.2.2.2.2.2.2.2.2.2.2.2.2.2.1) (a.2.2.2.2.2.2.2.2.2.2.2.2.2.2.2.2.2.2.2.2.2.2.1) (a.2.2.2.2.2.2.2.2.2.2.2.2.2.2.2.2.2.2.2.2.2.2.2.1) (a.2.2.2.2.2.2.2.2.2.2.2.2.2.2.2.2.2.2.2.2.2.2.2.2.1) (a.2.2.2.2.2.2.2.2.2.2.2.2.2.2.2.2.2.2.2.2.2.2.2.2.2.1) (a.2.2.2.2.2.2.2.2.2.2.2.2.2.2.2.2.2.2.2.2.2.2.2.2.2.2.1) (a.2.2.2.2.2.2.2.2.2.2.2.2.2.2.2.2.2.2.2.2.2.2.2.2.2.2.2.1) (a.2.2.2.2.2.2.2.2.2.2.2.2.2.2.2.2.2.2.2.2.2.2.2.2.2.2.2.2.1) (a.2.2.2.2.2.2.2.2.2.2.2.2.2.2.2.2.2.2.2.2.2.2.2.2.2.2.2.2.2.1) (a.2.2.2.2.2.2.2.2.2.2.2.2.2.2.2.2.2.2.2.2.2.2.2.2.2.2.2.2.2.2.1) (a.2.2.2.2.2.2.2.2.2.2.2.2.2.2.2.2.2.2.2.2.2.2.2.2.2.2.2.2.2.2.2.1) (a.2.2.2.2.2.2.2.2.2.2.2.2.2.2.2.2.2.2.2.2.2.2.2.2.2.2.2.2.2.2.2.2.1) (a.2.2.2.2.2.2.2.2.2.2.2.2.2.2.2.2.2.2.2.2.2.2.2.2.2.2.2.2.2.2.2.2.2.1) (a.2.2.2.2.2.2.2.2.2.2.2.2.2.2.2.2.2.2.2.2.2.2.2.2.2.2.2.2.2.2.2.2.2.2.1) (a.2.2.2.2.2.2.2.2.2.2.2.2.2.2.2.2.2.2.2.2.2.2.2.2.2.2.2.2.2.2.2.2.2.2.2.1) (a.2.2.2.2.2.2.2.2.2.2.2.2.2.2.2.2.2.2.2.2.2.2.2.2.2.2.2.2.2.2.2.2.2.2.2.2.1) (a.2.2.2.2.2.2.2.2.2.2.2.2.2.2.2.2.2.2.2.2.2.2.2.2.2.2.2.2.2.2.2.2.2.2.2.2.2.1) (a.2.2.2.2.2.2.2.2.2.2.2.2.2.2.2.2.2.2.2.2.2.2.2.2.2.2.2.2.2.2.2.2.2.2.2.2.2.2.1) (a.2.2.2.2.2.2.2.2.2.2.2.2.2.2.2.2.2.2.2.2.2.2.2.2.2.2.2.2.2.2.2.2.2.2.2.2.2.2.2.1) (a.2.2.2.2.2.2.2.2.2.2.2.2.2.2.2.2.2.2.2.2.2.2.2.2.2.2.2.2.2.2.2.2.2.2.2.2.2.2.2.2.1) (a.2.2.2.2.2.2.2.2.2.2.2.2.2.2.2.2.2.2.2.2.2.2.2.2.2.2.2.2.2.2.2.2.2.2.2.2.2.2.2.2.2.1) (a.2.2.2.2.2.2.2.2.2.2.2.2.2.2.2.2.2.2.2.2.2.2.2.2.2.2.2.2.2.2.2.2.2.2.2.2.2.2.2.2.2.2.1) (a.2.2.2.2.2.2.2.2.2.2.2.2.2.2.2.2.2.2.2.2.2.2.2.2.2.2.2.2.2.2.2.2.2.2.2.2.2.2.2.2.2.2.2.1) (a.2.2.2.2.2.2.2.2.2.2.2.2.2.2.2.2.2.2.2.2.2.2.2.2.2.2.2.2.2.2.2.2.2.2.2.2.2.2.2.2.2.2.2.2)
noncomputable def l51 (K : Nat) : List (Nat × App) := (51, face_Of.app K) :: l83 K
theorem gd51 (K : Nat) : Sy.Good Try.prog fns (mkF (l51 K)) := good_cons (K := K) face_Of.is rfl (by kernel_rfl) (by decide +kernel) envOk relOk relNp mix (gd83 K) noExt_ok (face_Of.ok _ K rfl rfl rfl rfl rfl rfl)
/-! ### gatherumlaw43_alive: function 48 -/
noncomputable def gatherumlaw43_alive.body : Code := Try.f48.body.getD .skip
noncomputable def gatherumlaw43_alive.sg : List S1 := []
noncomputable def gatherumlaw43_alive.sh : Sh := (.one (.one .b))
noncomputable def gatherumlaw43_alive.cf : Cfg := ⟨env, Try.f48.ntmps, Try.f48.results.toList, some gatherumlaw43_alive.sh, rel, [], [], noExt⟩
noncomputable def gatherumlaw43_alive.t : Tree := (.fix [(.row [(.ex (.nu 1)), (.ex (.nu 3)), (.ex (.nu 0)), (.ex (.nu 0)), (.ex (.nu 0)), (.ex (.nu 0)), (.ex (.nu 0)), (.ex (.nu 9)), (.ex (.nu 9)), (.so (.co ⟨#[]⟩))])] 10 (.ask 51 [(.so (.co ⟨#[]⟩)), (.ex (.nu 0)), (.ex (.nu 0)), (.ex (.nu 0)), (.ex (.nu 4)), (.ex (.nu 4)), (.ex (.nu 0)), (.ex (.nu 0)), (.ex (.nu 0)), (.ex (.nu 0)), (.ex (.nu 0)), (.ex (.nu 0)), (.ex (.nu 0)), (.ex (.nu 0)), (.kv (.slice none 0 0)), (.kv (.slice none 0 0)), (.ex (.nu 0)), (.ex (.nu 0)), (.ex (.nu 0)), (.ex (.nu 0)), (.ex (.nu 0)), (.ex (.nu 0)), (.ex (.nu 0)), (.ex (.nu 0)), (.ex (.nu 0)), (.ex (.nu 0)), (.ex (.nu 0)), (.ex (.nu 0)), (.ex (.nu 0)), (.ex (.nu 0)), (.ex (.nu 0)), (.ex (.nu 0)), (.ex (.nu 0)), (.ex (.nu 9)), (.ex (.nu 9)), (.li 0), (.nl 10), (.ex (.nu 0)), (.ex (.nu 0)), (.ex (.nu 4)), (.ex (.nu 4)), (.ex (.nu 0)), (.ex (.nu 0)), (.ex (.nu 0)), (.bo (.co true))] [.i, .i, .i, .i, .i, .i, .i, .i, .i, .i] (.ite (.eq (.va 1) (.nu 3)) (.ite (.eq (.va 9) (.nu 1)) (.ret [(.bo (.and (.eq (.va 5) (.nu 0)) (.and (.eq (.va 6) (.nu 0)) (.and (.eq (.va 7) (.nu 4)) (.eq (.va 8) (.nu 4))))))]) (.ret [(.bo (.co false))])) (.ret [(.bo (.co false))]))))
noncomputable def gatherumlaw43_alive.ra : Rw (Unit) := rwU
noncomputable def gatherumlaw43_alive.rr : Rw (Bool) := rwB
theorem gatherumlaw43_alive.rr_en (r : Bool) : gatherumlaw43_alive.rr.en r = [.bool r] := rfl
noncomputable def gatherumlaw43_alive.f (K : Nat) : Option (Bool) := ((face_Of.f K (⟨#[]⟩ : ByteArray) 0 0 0 4 4 0 0 0 0 0 0 0 0 kSl kSl 0 0 0 0 0 0 0 0 0 0 0 0 0 0 0 0 0 9 9 [(1, 3, 0, 0, 0, 0, 0, 9, 9, (⟨#[]⟩ : ByteArray))] [] 0 0 4 4 0 0 0 true).bind fun b0 => (if (b0.1 == 3) = true then (if (b0.2.2.2.2.2.2.2.2.1 == 1) = true then some ((b0.2.2.2.2.1 == 0) && ((b0.2.2.2.2.2.1 == 0) && ((b0.2.2.2.2.2.2.1 == 4) && (b0.2.2.2.2.2.2.2.1 == 4)))) else some false) else some false))
noncomputable def gatherumlaw43_alive.app (K : Nat) : App := fun ps => (gatherumlaw43_alive.ra.de ps).bind fun x => (gatherumlaw43_alive.f K).map gatherumlaw43_alive.rr.en
theorem gatherumlaw43_alive.ap (K : Nat) : gatherumlaw43_alive.app K [] = (gatherumlaw43_alive.f K).map gatherumlaw43_alive.rr.en := app_ap gatherumlaw43_alive.ra gatherumlaw43_alive.rr (fun x => gatherumlaw43_alive.f K) ()
theorem gatherumlaw43_alive.is : FnIs Try.prog 48 (.init gatherumlaw43_alive.sg) gatherumlaw43_alive.t gatherumlaw43_alive.cf := ⟨Try.f48, gatherumlaw43_alive.body, 6000, Try.func48, by kernel_rfl, rfl, rfl, by decide +kernel, by kernel_rfl⟩
theorem gatherumlaw43_alive.den (F : FnE) (K : Nat) (h51 : F 51 = face_Of.app K) : Sy.den F K gatherumlaw43_alive.t [] [] = (gatherumlaw43_alive.f K).map gatherumlaw43_alive.rr.en := by
  unfold gatherumlaw43_alive.t gatherumlaw43_alive.f
  refine den_fix (rows := List.map rw_iiiiiiiiis.en [(1, 3, 0, 0, 0, 0, 0, 9, 9, (⟨#[]⟩ : ByteArray))]) (by simp only [pds, PC.pd, E.ev, B.ev, SE.ev, LE.rows, lensEv, kSl_eq, kPt_eq, ov_prop, List.getElem?_cons_zero, List.getElem?_cons_succ, List.length_map, Nat.add_zero, Nat.zero_add, Option.bind_some, Option.map_some, if_true, Subtype.eta, mxi, mni, List.map_append, List.map_cons, List.map_nil, List.cons_append, List.nil_append, List.append_nil, rw_iiiiiiiiis_en]) ?_
  show Sy.den F K _ _ [.lst 10 ([(1, 3, 0, 0, 0, 0, 0, 9, 9, (⟨#[]⟩ : ByteArray))].map rw_iiiiiiiiis.en)] = _
  refine den_ask (ps := [.str (⟨#[]⟩ : ByteArray), .int 0, .int 0, .int 0, .int 4, .int 4, .int 0, .int 0, .int 0, .int 0, .int 0, .int 0, .int 0, .int 0, .oth kSl.1, .oth kSl.1, .int 0, .int 0, .int 0, .int 0, .int 0, .int 0, .int 0, .int 0, .int 0, .int 0, .int 0, .int 0, .int 0, .int 0, .int 0, .int 0, .int 0, .int 9, .int 9, .lst 10 ([(1, 3, 0, 0, 0, 0, 0, 9, 9, (⟨#[]⟩ : ByteArray))].map rw_iiiiiiiiis.en), .lst 10 [], .int 0, .int 0, .int 4, .int 4, .int 0, .int 0, .int 0, .bool true]) (rr := face_Of.rr) (G := face_Of.f K (⟨#[]⟩ : ByteArray) 0 0 0 4 4 0 0 0 0 0 0 0 0 kSl kSl 0 0 0 0 0 0 0 0 0 0 0 0 0 0 0 0 0 9 9 [(1, 3, 0, 0, 0, 0, 0, 9, 9, (⟨#[]⟩ : ByteArray))] [] 0 0 4 4 0 0 0 true) (by rw [h51]; exact face_Of.ap K (⟨#[]⟩ : ByteArray) 0 0 0 4 4 0 0 0 0 0 0 0 0 kSl kSl 0 0 0 0 0 0 0 0 0 0 0 0 0 0 0 0 0 9 9 [(1, 3, 0, 0, 0, 0, 0, 9, 9, (⟨#[]⟩ : ByteArray))] [] 0 0 4 4 0 0 0 true) (by simp only [pds, PC.pd, E.ev, B.ev, SE.ev, LE.rows, lensEv, kSl_eq, kPt_eq, ov_prop, List.getElem?_cons_zero, List.getElem?_cons_succ, List.length_map, Nat.add_zero, Nat.zero_add, Option.bind_some, Option.map_some, if_true, Subtype.eta, mxi, mni, List.map_append, List.map_cons, List.map_nil, List.cons_append, List.nil_append, List.append_nil]) rfl fun b0 => ?_
  show Sy.den F K _ _ [.lst 10 ([(1, 3, 0, 0, 0, 0, 0, 9, 9, (⟨#[]⟩ : ByteArray))].map rw_iiiiiiiiis.en), .int b0.1, .int b0.2.1, .int b0.2.2.1, .int b0.2.2.2.1, .int b0.2.2.2.2.1, .int b0.2.2.2.2.2.1, .int b0.2.2.2.2.2.2.1, .int b0.2.2.2.2.2.2.2.1, .int b0.2.2.2.2.2.2.2.2.1, .int b0.2.2.2.2.2.2.2.2.2] = _
  refine den_ite (b := (b0.1 == 3)) rfl ?_ ?_
  refine den_ite (b := (b0.2.2.2.2.2.2.2.2.1 == 1)) rfl ?_ ?_
  exact den_ret rfl
  exact den_ret rfl
  exact den_ret rfl
theorem gatherumlaw43_alive.ok (F : FnE) (K : Nat) (h51 : F 51 = face_Of.app K) (ps r : List PD) (h : gatherumlaw43_alive.app K ps = some r) : Sy.den F K gatherumlaw43_alive.t [] ps = some r := by
  obtain ⟨a, rfl, h2⟩ := app_ok (ra := gatherumlaw43_alive.ra) (rr := gatherumlaw43_alive.rr) (f := fun x => gatherumlaw43_alive.f K) h
  rw [← h2]
  exact gatherumlaw43_alive.den F K h51
noncomputable def l48 (K : Nat) : List (Nat × App) := (48, gatherumlaw43_alive.app K) :: l51 K
theorem gd48 (K : Nat) : Sy.Good Try.prog fns (mkF (l48 K)) := good_cons (K := K) gatherumlaw43_alive.is rfl (by kernel_rfl) (by decide +kernel) envOk relOk relNp mix (gd51 K) noExt_ok (gatherumlaw43_alive.ok _ K rfl)
/-! ### gatherumlaw43_few: function 49 -/
noncomputable def gatherumlaw43_few.body : Code := Try.f49.body.getD .skip
noncomputable def gatherumlaw43_few.sg : List S1 := [(.agg [.i, .i, (.l 77 10), (.l 77 10)])]
noncomputable def gatherumlaw43_few.sh : Sh := (.one (.one .b))
noncomputable def gatherumlaw43_few.cf : Cfg := ⟨env, Try.f49.ntmps, Try.f49.results.toList, some gatherumlaw43_few.sh, rel, [], [], noExt⟩
noncomputable def gatherumlaw43_few.t : Tree := (.ite (.le (.lens [2] 0) (.nu 300)) (.ret [(.bo (.le (.lens [3] 0) (.nu 300)))]) (.ret [(.bo (.co false))]))
noncomputable def gatherumlaw43_few.ra : Rw (Int × Int × (List (Int × Int × Int × Int × Int × Int × Int × Int × Int × ByteArray)) × (List (Int × Int × Int × Int × Int × Int × Int × Int × Int × ByteArray))) := (rwP rwI (rwP rwI (rwP (rwL 77 10 rw_iiiiiiiiis rfl) (rwL 77 10 rw_iiiiiiiiis rfl))))
noncomputable def gatherumlaw43_few.rr : Rw (Bool) := rwB
theorem gatherumlaw43_few.rr_en (r : Bool) : gatherumlaw43_few.rr.en r = [.bool r] := rfl
noncomputable def gatherumlaw43_few.f (a0_0 : Int) (a0_1 : Int) (a0_2 : List (Int × Int × Int × Int × Int × Int × Int × Int × Int × ByteArray)) (a0_3 : List (Int × Int × Int × Int × Int × Int × Int × Int × Int × ByteArray)) : Option (Bool) := (if (decide (((a0_2.length : Nat) : Int) ≤ 300)) = true then some (decide (((a0_3.length : Nat) : Int) ≤ 300)) else some false)
noncomputable def gatherumlaw43_few.app : App := fun ps => (gatherumlaw43_few.ra.de ps).bind fun x => (gatherumlaw43_few.f x.1 x.2.1 x.2.2.1 x.2.2.2).map gatherumlaw43_few.rr.en
theorem gatherumlaw43_few.ap (a0_0 : Int) (a0_1 : Int) (a0_2 : List (Int × Int × Int × Int × Int × Int × Int × Int × Int × ByteArray)) (a0_3 : List (Int × Int × Int × Int × Int × Int × Int × Int × Int × ByteArray)) : gatherumlaw43_few.app [.int a0_0, .int a0_1, .lst 10 (a0_2.map rw_iiiiiiiiis.en), .lst 10 (a0_3.map rw_iiiiiiiiis.en)] = (gatherumlaw43_few.f a0_0 a0_1 a0_2 a0_3).map gatherumlaw43_few.rr.en := app_ap gatherumlaw43_few.ra gatherumlaw43_few.rr (fun x => gatherumlaw43_few.f x.1 x.2.1 x.2.2.1 x.2.2.2) (a0_0, a0_1, a0_2, a0_3)
theorem gatherumlaw43_few.is : FnIs Try.prog 49 (.init gatherumlaw43_few.sg) gatherumlaw43_few.t gatherumlaw43_few.cf := ⟨Try.f49, gatherumlaw43_few.body, 6000, Try.func49, by kernel_rfl, rfl, rfl, by decide +kernel, by kernel_rfl⟩
theorem gatherumlaw43_few.den (F : FnE) (K : Nat) (a0_0 : Int) (a0_1 : Int) (a0_2 : List (Int × Int × Int × Int × Int × Int × Int × Int × Int × ByteArray)) (a0_3 : List (Int × Int × Int × Int × Int × Int × Int × Int × Int × ByteArray)) : Sy.den F K gatherumlaw43_few.t [] [.int a0_0, .int a0_1, .lst 10 (a0_2.map rw_iiiiiiiiis.en), .lst 10 (a0_3.map rw_iiiiiiiiis.en)] = (gatherumlaw43_few.f a0_0 a0_1 a0_2 a0_3).map gatherumlaw43_few.rr.en := by
  unfold gatherumlaw43_few.t gatherumlaw43_few.f
  refine den_ite (b := (decide (((a0_2.length : Nat) : Int) ≤ 300))) (by simp only [pds, PC.pd, E.ev, B.ev, SE.ev, LE.rows, lensEv, kSl_eq, kPt_eq, ov_prop, List.getElem?_cons_zero, List.getElem?_cons_succ, List.length_map, Nat.add_zero, Nat.zero_add, Option.bind_some, Option.map_some, if_true, Subtype.eta, mxi, mni, List.map_append, List.map_cons, List.map_nil, List.cons_append, List.nil_append, List.append_nil]) ?_ ?_
  exact den_ret (by simp only [pds, PC.pd, E.ev, B.ev, SE.ev, LE.rows, lensEv, kSl_eq, kPt_eq, ov_prop, List.getElem?_cons_zero, List.getElem?_cons_succ, List.length_map, Nat.add_zero, Nat.zero_add, Option.bind_some, Option.map_some, if_true, Subtype.eta, mxi, mni, List.map_append, List.map_cons, List.map_nil, List.cons_append, List.nil_append, List.append_nil, gatherumlaw43_few.rr_en])
  exact den_ret rfl
theorem gatherumlaw43_few.ok (F : FnE) (K : Nat) (ps r : List PD) (h : gatherumlaw43_few.app ps = some r) : Sy.den F K gatherumlaw43_few.t [] ps = some r := by
  obtain ⟨a, rfl, h2⟩ := app_ok (ra := gatherumlaw43_few.ra) (rr := gatherumlaw43_few.rr) (f := fun x => gatherumlaw43_few.f x.1 x.2.1 x.2.2.1 x.2.2.2) h
  rw [← h2]
  exact gatherumlaw43_few.den F K (a.1) (a.2.1) (a.2.2.1) (a.2.2.2)
noncomputable def l49 (K : Nat) : List (Nat × App) := (49, gatherumlaw43_few.app) :: l48 K
theorem gd49 (K : Nat) : Sy.Good Try.prog fns (mkF (l49 K)) := good_cons (K := K) gatherumlaw43_few.is rfl (by kernel_rfl) (by decide +kernel) envOk relOk relNp mix (gd48 K) noExt_ok (gatherumlaw43_few.ok _ K)
/-! ### gatherumlaw43_on: function 50 -/
noncomputable def gatherumlaw43_on.body : Code := Try.f50.body.getD .skip
noncomputable def gatherumlaw43_on.sg : List S1 := [(.one (.l 77 10)), (.agg [.i, .i, .i, .i])]
noncomputable def gatherumlaw43_on.sh : Sh := (.one (.one (.l 77 10)))
noncomputable def gatherumlaw43_on.cf : Cfg := ⟨env, Try.f50.ntmps, Try.f50.results.toList, some gatherumlaw43_on.sh, rel, [3], [((3, 262, 5), ⟨[], [], [(6, [(0, .i), (0, .i)]), (5, [(0, (.own 77 10))])], []⟩)], noExt⟩
noncomputable def gatherumlaw43_on.b0 : Tree := (.ite (.lt (.va 5) (.lens [0] 0)) (.ite (.le (.nu 0) (.va 5)) (.get 0 (.va 5) [.i, .i, .i, .i, .i, .i, .i, .i, .i, .s] (.ask 46 [(.ex (.va 12)), (.ex (.va 13)), (.ex (.va 14)), (.ex (.va 15)), (.ex (.va 1)), (.ex (.va 2)), (.ex (.va 3)), (.ex (.va 4))] [.i, .i, .i, .i] (.ask 18 [(.ex (.va 17)), (.ex (.va 18)), (.ex (.va 19)), (.ex (.va 20))] [.b] (.ite (.not (.va 21)) (.ite (.le (.lens [6] 1) (.nu cap1599289640401)) (.fix [(.va 6), (.row [(.ex (.va 7)), (.ex (.va 8)), (.ex (.va 9)), (.ex (.va 10)), (.ex (.va 11)), (.ex (.va 12)), (.ex (.va 13)), (.ex (.va 14)), (.ex (.va 15)), (.so (.va 16))])] 10 (.back 0 5 [(.ex (.add (.va 5) (.nu 1))), (.li 22)])) .bad) (.back 0 5 [(.ex (.add (.va 5) (.nu 1))), (.li 6)]))))) .bad) (.fix [(.va 6)] 10 (.ret [(.li 7)])))
noncomputable def gatherumlaw43_on.t : Tree := (.loop [(.ex (.nu 0)), (.nl 10)] [.i, (.l 77 10)] gatherumlaw43_on.b0)
noncomputable def gatherumlaw43_on.ra : Rw ((List (Int × Int × Int × Int × Int × Int × Int × Int × Int × ByteArray)) × Int × Int × Int × Int) := (rwP (rwL 77 10 rw_iiiiiiiiis rfl) (rwP rwI (rwP rwI (rwP rwI rwI))))
noncomputable def gatherumlaw43_on.rr : Rw (List (Int × Int × Int × Int × Int × Int × Int × Int × Int × ByteArray)) := (rwL 77 10 rw_iiiiiiiiis rfl)
theorem gatherumlaw43_on.rr_en (r : List (Int × Int × Int × Int × Int × Int × Int × Int × Int × ByteArray)) : gatherumlaw43_on.rr.en r = [.lst 10 (r.map rw_iiiiiiiiis.en)] := rfl
noncomputable def gatherumlaw43_on.l0 (p0 : List (Int × Int × Int × Int × Int × Int × Int × Int × Int × ByteArray)) (p1 : Int) (p2 : Int) (p3 : Int) (p4 : Int) : Nat → (Int) → (List (Int × Int × Int × Int × Int × Int × Int × Int × Int × ByteArray)) → Option (List (Int × Int × Int × Int × Int × Int × Int × Int × Int × ByteArray))
  | 0, _, _ => none
  | k + 1, x0, x1 => (if (decide (x0 < ((p0.length : Nat) : Int))) = true then (if (decide (0 ≤ x0)) = true then ((p0[(x0 : Int).toNat]?).bind fun b0 => ((gatherumref04_Meet.f b0.2.2.2.2.2.1 b0.2.2.2.2.2.2.1 b0.2.2.2.2.2.2.2.1 b0.2.2.2.2.2.2.2.2.1 p1 p2 p3 p4).bind fun b1 => ((gatherumref04_Empty.f b1.1 b1.2.1 b1.2.2.1 b1.2.2.2).bind fun b2 => (if (!b2) = true then (if (decide (((x1.length + 1 : Nat) : Int) ≤ cap1599289640401)) = true then (gatherumlaw43_on.l0 p0 p1 p2 p3 p4 k (wrap64 (x0 + 1)) (x1 ++ [(b0.1, b0.2.1, b0.2.2.1, b0.2.2.2.1, b0.2.2.2.2.1, b0.2.2.2.2.2.1, b0.2.2.2.2.2.2.1, b0.2.2.2.2.2.2.2.1, b0.2.2.2.2.2.2.2.2.1, b0.2.2.2.2.2.2.2.2.2)])) else none) else (gatherumlaw43_on.l0 p0 p1 p2 p3 p4 k (wrap64 (x0 + 1)) x1))))) else none) else some x1)
noncomputable def gatherumlaw43_on.f (K : Nat) (a0 : List (Int × Int × Int × Int × Int × Int × Int × Int × Int × ByteArray)) (a1_0 : Int) (a1_1 : Int) (a1_2 : Int) (a1_3 : Int) : Option (List (Int × Int × Int × Int × Int × Int × Int × Int × Int × ByteArray)) := (gatherumlaw43_on.l0 a0 a1_0 a1_1 a1_2 a1_3 K 0 [])
noncomputable def gatherumlaw43_on.app (K : Nat) : App := fun ps => (gatherumlaw43_on.ra.de ps).bind fun x => (gatherumlaw43_on.f K x.1 x.2.1 x.2.2.1 x.2.2.2.1 x.2.2.2.2).map gatherumlaw43_on.rr.en
theorem gatherumlaw43_on.ap (K : Nat) (a0 : List (Int × Int × Int × Int × Int × Int × Int × Int × Int × ByteArray)) (a1_0 : Int) (a1_1 : Int) (a1_2 : Int) (a1_3 : Int) : gatherumlaw43_on.app K [.lst 10 (a0.map rw_iiiiiiiiis.en), .int a1_0, .int a1_1, .int a1_2, .int a1_3] = (gatherumlaw43_on.f K a0 a1_0 a1_1 a1_2 a1_3).map gatherumlaw43_on.rr.en := app_ap gatherumlaw43_on.ra gatherumlaw43_on.rr (fun x => gatherumlaw43_on.f K x.1 x.2.1 x.2.2.1 x.2.2.2.1 x.2.2.2.2) (a0, a1_0, a1_1, a1_2, a1_3)
theorem gatherumlaw43_on.is : FnIs Try.prog 50 (.init gatherumlaw43_on.sg) gatherumlaw43_on.t gatherumlaw43_on.cf := ⟨Try.f50, gatherumlaw43_on.body, 6000, Try.func50, by kernel_rfl, rfl, rfl, by decide +kernel, by kernel_rfl⟩
theorem gatherumlaw43_on.l0_den (F : FnE) (K : Nat) (h18 : F 18 = gatherumref04_Empty.app) (h46 : F 46 = gatherumref04_Meet.app) (Js : List (List PD → Option (List PD))) (p0 : List (Int × Int × Int × Int × Int × Int × Int × Int × Int × ByteArray)) (p1 : Int) (p2 : Int) (p3 : Int) (p4 : Int) : ∀ (k : Nat) (x0 : Int) (x1 : List (Int × Int × Int × Int × Int × Int × Int × Int × Int × ByteArray)), iterF (fun J ρ' => den F K gatherumlaw43_on.b0 (J :: Js) ρ') k [.lst 10 (p0.map rw_iiiiiiiiis.en), .int p1, .int p2, .int p3, .int p4, .int x0, .lst 10 (x1.map rw_iiiiiiiiis.en)] = (gatherumlaw43_on.l0 p0 p1 p2 p3 p4 k x0 x1).map gatherumlaw43_on.rr.en := by
  intro k
  induction k with
  | zero => intros; rfl
  | succ k ih =>
    intro x0 x1
    show Sy.den F K gatherumlaw43_on.b0 (iterF (fun J ρ' => Sy.den F K gatherumlaw43_on.b0 (J :: Js) ρ') k :: Js) [.lst 10 (p0.map rw_iiiiiiiiis.en), .int p1, .int p2, .int p3, .int p4, .int x0, .lst 10 (x1.map rw_iiiiiiiiis.en)] = _
    revert ih
    generalize iterF (fun J ρ' => Sy.den F K gatherumlaw43_on.b0 (J :: Js) ρ') k = J0
    intro ih
    rw [gatherumlaw43_on.l0]
    show Sy.den F K gatherumlaw43_on.b0 _ [.lst 10 (p0.map rw_iiiiiiiiis.en), .int p1, .int p2, .int p3, .int p4, .int x0, .lst 10 (x1.map rw_iiiiiiiiis.en)] = _
    unfold gatherumlaw43_on.b0
    refine den_ite (b := (decide (x0 < ((p0.length : Nat) : Int)))) (by simp only [pds, PC.pd, E.ev, B.ev, SE.ev, LE.rows, lensEv, kSl_eq, kPt_eq, ov_prop, List.getElem?_cons_zero, List.getElem?_cons_succ, List.length_map, Nat.add_zero, Nat.zero_add, Option.bind_some, Option.map_some, if_true, Subtype.eta, mxi, mni, List.map_append, List.map_cons, List.map_nil, List.cons_append, List.nil_append, List.append_nil]) ?_ ?_
    refine den_ite (b := (decide (0 ≤ x0))) rfl ?_ ?_
    refine den_get (L := p0) (rw := rw_iiiiiiiiis) rfl rfl rfl fun b0 => ?_
    show Sy.den F K _ _ [.lst 10 (p0.map rw_iiiiiiiiis.en), .int p1, .int p2, .int p3, .int p4, .int x0, .lst 10 (x1.map rw_iiiiiiiiis.en), .int b0.1, .int b0.2.1, .int b0.2.2.1, .int b0.2.2.2.1, .int b0.2.2.2.2.1, .int b0.2.2.2.2.2.1, .int b0.2.2.2.2.2.2.1, .int b0.2.2.2.2.2.2.2.1, .int b0.2.2.2.2.2.2.2.2.1, .str b0.2.2.2.2.2.2.2.2.2] = _
    refine den_ask (ps := [.int b0.2.2.2.2.2.1, .int b0.2.2.2.2.2.2.1, .int b0.2.2.2.2.2.2.2.1, .int b0.2.2.2.2.2.2.2.2.1, .int p1, .int p2, .int p3, .int p4]) (rr := gatherumref04_Meet.rr) (G := gatherumref04_Meet.f b0.2.2.2.2.2.1 b0.2.2.2.2.2.2.1 b0.2.2.2.2.2.2.2.1 b0.2.2.2.2.2.2.2.2.1 p1 p2 p3 p4) (by rw [h46]; exact gatherumref04_Meet.ap b0.2.2.2.2.2.1 b0.2.2.2.2.2.2.1 b0.2.2.2.2.2.2.2.1 b0.2.2.2.2.2.2.2.2.1 p1 p2 p3 p4) rfl rfl fun b1 => ?_
    show Sy.den F K _ _ [.lst 10 (p0.map rw_iiiiiiiiis.en), .int p1, .int p2, .int p3, .int p4, .int x0, .lst 10 (x1.map rw_iiiiiiiiis.en), .int b0.1, .int b0.2.1, .int b0.2.2.1, .int b0.2.2.2.1, .int b0.2.2.2.2.1, .int b0.2.2.2.2.2.1, .int b0.2.2.2.2.2.2.1, .int b0.2.2.2.2.2.2.2.1, .int b0.2.2.2.2.2.2.2.2.1, .str b0.2.2.2.2.2.2.2.2.2, .int b1.1, .int b1.2.1, .int b1.2.2.1, .int b1.2.2.2] = _
    refine den_ask (ps := [.int b1.1, .int b1.2.1, .int b1.2.2.1, .int b1.2.2.2]) (rr := gatherumref04_Empty.rr) (G := gatherumref04_Empty.f b1.1 b1.2.1 b1.2.2.1 b1.2.2.2) (by rw [h18]; exact gatherumref04_Empty.ap b1.1 b1.2.1 b1.2.2.1 b1.2.2.2) rfl rfl fun b2 => ?_
    show Sy.den F K _ _ [.lst 10 (p0.map rw_iiiiiiiiis.en), .int p1, .int p2, .int p3, .int p4, .int x0, .lst 10 (x1.map rw_iiiiiiiiis.en), .int b0.1, .int b0.2.1, .int b0.2.2.1, .int b0.2.2.2.1, .int b0.2.2.2.2.1, .int b0.2.2.2.2.2.1, .int b0.2.2.2.2.2.2.1, .int b0.2.2.2.2.2.2.2.1, .int b0.2.2.2.2.2.2.2.2.1, .str b0.2.2.2.2.2.2.2.2.2, .int b1.1, .int b1.2.1, .int b1.2.2.1, .int b1.2.2.2, .bool b2] = _
    refine den_ite (b := (!b2)) rfl ?_ ?_
    refine den_ite (b := (decide (((x1.length + 1 : Nat) : Int) ≤ cap1599289640401))) (by simp only [pds, PC.pd, E.ev, B.ev, SE.ev, LE.rows, lensEv, kSl_eq, kPt_eq, ov_prop, List.getElem?_cons_zero, List.getElem?_cons_succ, List.length_map, Nat.add_zero, Nat.zero_add, Option.bind_some, Option.map_some, if_true, Subtype.eta, mxi, mni, List.map_append, List.map_cons, List.map_nil, List.cons_append, List.nil_append, List.append_nil]) ?_ ?_
    refine den_fix (rows := List.map rw_iiiiiiiiis.en (x1 ++ [(b0.1, b0.2.1, b0.2.2.1, b0.2.2.2.1, b0.2.2.2.2.1, b0.2.2.2.2.2.1, b0.2.2.2.2.2.2.1, b0.2.2.2.2.2.2.2.1, b0.2.2.2.2.2.2.2.2.1, b0.2.2.2.2.2.2.2.2.2)])) (by simp only [pds, PC.pd, E.ev, B.ev, SE.ev, LE.rows, lensEv, kSl_eq, kPt_eq, ov_prop, List.getElem?_cons_zero, List.getElem?_cons_succ, List.length_map, Nat.add_zero, Nat.zero_add, Option.bind_some, Option.map_some, if_true, Subtype.eta, mxi, mni, List.map_append, List.map_cons, List.map_nil, List.cons_append, List.nil_append, List.append_nil, rw_iiiiiiiiis_en]) ?_
    show Sy.den F K _ _ [.lst 10 (p0.map rw_iiiiiiiiis.en), .int p1, .int p2, .int p3, .int p4, .int x0, .lst 10 (x1.map rw_iiiiiiiiis.en), .int b0.1, .int b0.2.1, .int b0.2.2.1, .int b0.2.2.2.1, .int b0.2.2.2.2.1, .int b0.2.2.2.2.2.1, .int b0.2.2.2.2.2.2.1, .int b0.2.2.2.2.2.2.2.1, .int b0.2.2.2.2.2.2.2.2.1, .str b0.2.2.2.2.2.2.2.2.2, .int b1.1, .int b1.2.1, .int b1.2.2.1, .int b1.2.2.2, .bool b2, .lst 10 ((x1 ++ [(b0.1, b0.2.1, b0.2.2.1, b0.2.2.2.1, b0.2.2.2.2.1, b0.2.2.2.2.2.1, b0.2.2.2.2.2.2.1, b0.2.2.2.2.2.2.2.1, b0.2.2.2.2.2.2.2.2.1, b0.2.2.2.2.2.2.2.2.2)]).map rw_iiiiiiiiis.en)] = _
    refine den_back (vs := [.int (wrap64 (x0 + 1)), .lst 10 ((x1 ++ [(b0.1, b0.2.1, b0.2.2.1, b0.2.2.2.1, b0.2.2.2.2.1, b0.2.2.2.2.2.1, b0.2.2.2.2.2.2.1, b0.2.2.2.2.2.2.2.1, b0.2.2.2.2.2.2.2.2.1, b0.2.2.2.2.2.2.2.2.2)]).map rw_iiiiiiiiis.en)]) (by simp only [pds, PC.pd, E.ev, B.ev, SE.ev, LE.rows, lensEv, kSl_eq, kPt_eq, ov_prop, List.getElem?_cons_zero, List.getElem?_cons_succ, List.length_map, Nat.add_zero, Nat.zero_add, Option.bind_some, Option.map_some, if_true, Subtype.eta, mxi, mni, List.map_append, List.map_cons, List.map_nil, List.cons_append, List.nil_append, List.append_nil]) rfl ?_
    exact ih (wrap64 (x0 + 1)) (x1 ++ [(b0.1, b0.2.1, b0.2.2.1, b0.2.2.2.1, b0.2.2.2.2.1, b0.2.2.2.2.2.1, b0.2.2.2.2.2.2.1, b0.2.2.2.2.2.2.2.1, b0.2.2.2.2.2.2.2.2.1, b0.2.2.2.2.2.2.2.2.2)])
    exact den_bad _ _ _ _ _
    refine den_back (vs := [.int (wrap64 (x0 + 1)), .lst 10 (x1.map rw_iiiiiiiiis.en)]) (by simp only [pds, PC.pd, E.ev, B.ev, SE.ev, LE.rows, lensEv, kSl_eq, kPt_eq, ov_prop, List.getElem?_cons_zero, List.getElem?_cons_succ, List.length_map, Nat.add_zero, Nat.zero_add, Option.bind_some, Option.map_some, if_true, Subtype.eta, mxi, mni, List.map_append, List.map_cons, List.map_nil, List.cons_append, List.nil_append, List.append_nil]) rfl ?_
    exact ih (wrap64 (x0 + 1)) x1
    exact den_bad _ _ _ _ _
    refine den_fix (rows := List.map rw_iiiiiiiiis.en x1) (by simp only [pds, PC.pd, E.ev, B.ev, SE.ev, LE.rows, lensEv, kSl_eq, kPt_eq, ov_prop, List.getElem?_cons_zero, List.getElem?_cons_succ, List.length_map, Nat.add_zero, Nat.zero_add, Option.bind_some, Option.map_some, if_true, Subtype.eta, mxi, mni, List.map_append, List.map_cons, List.map_nil, List.cons_append, List.nil_append, List.append_nil, rw_iiiiiiiiis_en]) ?_
    show Sy.den F K _ _ [.lst 10 (p0.map rw_iiiiiiiiis.en), .int p1, .int p2, .int p3, .int p4, .int x0, .lst 10 (x1.map rw_iiiiiiiiis.en), .lst 10 (x1.map rw_iiiiiiiiis.en)] = _
    exact den_ret (by simp only [pds, PC.pd, E.ev, B.ev, SE.ev, LE.rows, lensEv, kSl_eq, kPt_eq, ov_prop, List.getElem?_cons_zero, List.getElem?_cons_succ, List.length_map, Nat.add_zero, Nat.zero_add, Option.bind_some, Option.map_some, if_true, Subtype.eta, mxi, mni, List.map_append, List.map_cons, List.map_nil, List.cons_append, List.nil_append, List.append_nil, gatherumlaw43_on.rr_en])
theorem gatherumlaw43_on.den (F : FnE) (K : Nat) (h18 : F 18 = gatherumref04_Empty.app) (h46 : F 46 = gatherumref04_Meet.app) (a0 : List (Int × Int × Int × Int × Int × Int × Int × Int × Int × ByteArray)) (a1_0 : Int) (a1_1 : Int) (a1_2 : Int) (a1_3 : Int) : Sy.den F K gatherumlaw43_on.t [] [.lst 10 (a0.map rw_iiiiiiiiis.en), .int a1_0, .int a1_1, .int a1_2, .int a1_3] = (gatherumlaw43_on.f K a0 a1_0 a1_1 a1_2 a1_3).map gatherumlaw43_on.rr.en := by
  unfold gatherumlaw43_on.t gatherumlaw43_on.f
  refine den_loop (vs := [.int 0, .lst 10 []]) (by simp only [pds, PC.pd, E.ev, B.ev, SE.ev, LE.rows, lensEv, kSl_eq, kPt_eq, ov_prop, List.getElem?_cons_zero, List.getElem?_cons_succ, List.length_map, Nat.add_zero, Nat.zero_add, Option.bind_some, Option.map_some, if_true, Subtype.eta, mxi, mni, List.map_append, List.map_cons, List.map_nil, List.cons_append, List.nil_append, List.append_nil]) ?_
  exact gatherumlaw43_on.l0_den F K h18 h46 [] a0 a1_0 a1_1 a1_2 a1_3 K 0 []
theorem gatherumlaw43_on.ok (F : FnE) (K : Nat) (h18 : F 18 = gatherumref04_Empty.app) (h46 : F 46 = gatherumref04_Meet.app) (ps r : List PD) (h : gatherumlaw43_on.app K ps = some r) : Sy.den F K gatherumlaw43_on.t [] ps = some r := by
  obtain ⟨a, rfl, h2⟩ := app_ok (ra := gatherumlaw43_on.ra) (rr := gatherumlaw43_on.rr) (f := fun x => gatherumlaw43_on.f K x.1 x.2.1 x.2.2.1 x.2.2.2.1 x.2.2.2.2) h
  rw [← h2]
  exact gatherumlaw43_on.den F K h18 h46 (a.1) (a.2.1) (a.2.2.1) (a.2.2.2.1) (a.2.2.2.2)
noncomputable def l50 (K : Nat) : List (Nat × App) := (50, gatherumlaw43_on.app K) :: l49 K
theorem gd50 (K : Nat) : Sy.Good Try.prog fns (mkF (l50 K)) := good_cons (K := K) gatherumlaw43_on.is rfl (by kernel_rfl) (by decide +kernel) envOk relOk relNp mix (gd49 K) noExt_ok (gatherumlaw43_on.ok _ K rfl rfl)
/-! ### gatherumref24_Same: function 52 -/
noncomputable def gatherumref24_Same.body : Code := Try.f52.body.getD .skip
noncomputable def gatherumref24_Same.sg : List S1 := [(.one (.l 77 10)), (.one (.l 77 10))]
noncomputable def gatherumref24_Same.sh : Sh := (.one (.one .b))
noncomputable def gatherumref24_Same.cf : Cfg := ⟨env, Try.f52.ntmps, Try.f52.results.toList, some gatherumref24_Same.sh, rel, [4], [((4, 451, 2), ⟨[], [], [(5, [(0, .i)])], []⟩)], noExt⟩
noncomputable def gatherumref24_Same.b0 : Tree := (.ite (.lt (.va 2) (.lens [0] 0)) (.ite (.le (.nu 0) (.va 2)) (.get 0 (.va 2) [.i, .i, .i, .i, .i, .i, .i, .i, .i, .s] (.ite (.lt (.va 2) (.lens [1] 0)) (.get 1 (.va 2) [.i, .i, .i, .i, .i, .i, .i, .i, .i, .s] (.ite (.not (.and (.eq (.va 3) (.va 13)) (.and (.eq (.va 4) (.va 14)) (.and (.eq (.va 5) (.va 15)) (.and (.eq (.va 6) (.va 16)) (.and (.eq (.va 7) (.va 17)) (.and (.eq (.va 8) (.va 18)) (.and (.eq (.va 9) (.va 19)) (.and (.eq (.va 10) (.va 20)) (.and (.eq (.va 11) (.va 21)) (.eqs (.va 12) (.va 22)))))))))))) (.ret [(.bo (.co false))]) (.back 0 2 [(.ex (.add (.va 2) (.nu 1)))]))) .bad)) .bad) (.ret [(.bo (.co true))]))
noncomputable def gatherumref24_Same.t : Tree := (.ite (.not (.eq (.lens [0] 0) (.lens [1] 0))) (.ret [(.bo (.co false))]) (.loop [(.ex (.nu 0))] [.i] gatherumref24_Same.b0))
noncomputable def gatherumref24_Same.ra : Rw ((List (Int × Int × Int × Int × Int × Int × Int × Int × Int × ByteArray)) × (List (Int × Int × Int × Int × Int × Int × Int × Int × Int × ByteArray))) := (rwP (rwL 77 10 rw_iiiiiiiiis rfl) (rwL 77 10 rw_iiiiiiiiis rfl))
noncomputable def gatherumref24_Same.rr : Rw (Bool) := rwB
theorem gatherumref24_Same.rr_en (r : Bool) : gatherumref24_Same.rr.en r = [.bool r] := rfl
noncomputable def gatherumref24_Same.l0 (p0 : List (Int × Int × Int × Int × Int × Int × Int × Int × Int × ByteArray)) (p1 : List (Int × Int × Int × Int × Int × Int × Int × Int × Int × ByteArray)) : Nat → (Int) → Option (Bool)
  | 0, _ => none
  | k + 1, x0 => (if (decide (x0 < ((p0.length : Nat) : Int))) = true then (if (decide (0 ≤ x0)) = true then ((p0[(x0 : Int).toNat]?).bind fun b0 => (if (decide (x0 < ((p1.length : Nat) : Int))) = true then ((p1[(x0 : Int).toNat]?).bind fun b1 => (if (!((b0.1 == b1.1) && ((b0.2.1 == b1.2.1) && ((b0.2.2.1 == b1.2.2.1) && ((b0.2.2.2.1 == b1.2.2.2.1) && ((b0.2.2.2.2.1 == b1.2.2.2.2.1) && ((b0.2.2.2.2.2.1 == b1.2.2.2.2.2.1) && ((b0.2.2.2.2.2.2.1 == b1.2.2.2.2.2.2.1) && ((b0.2.2.2.2.2.2.2.1 == b1.2.2.2.2.2.2.2.1) && ((b0.2.2.2.2.2.2.2.2.1 == b1.2.2.2.2.2.2.2.2.1) && (b0.2.2.2.2.2.2.2.2.2.toList == b1.2.2.2.2.2.2.2.2.2.toList))))))))))) = true then some false else (gatherumref24_Same.l0 p0 p1 k (wrap64 (x0 + 1))))) else none)) else none) else some true)
noncomputable def gatherumref24_Same.f (K : Nat) (a0 : List (Int × Int × Int × Int × Int × Int × Int × Int × Int × ByteArray)) (a1 : List (Int × Int × Int × Int × Int × Int × Int × Int × Int × ByteArray)) : Option (Bool) := (if (!(((a0.length : Nat) : Int) == ((a1.length : Nat) : Int))) = true then some false else (gatherumref24_Same.l0 a0 a1 K 0))
noncomputable def gatherumref24_Same.app (K : Nat) : App := fun ps => (gatherumref24_Same.ra.de ps).bind fun x => (gatherumref24_Same.f K x.1 x.2).map gatherumref24_Same.rr.en
theorem gatherumref24_Same.ap (K : Nat) (a0 : List (Int × Int × Int × Int × Int × Int × Int × Int × Int × ByteArray)) (a1 : List (Int × Int × Int × Int × Int × Int × Int × Int × Int × ByteArray)) : gatherumref24_Same.app K [.lst 10 (a0.map rw_iiiiiiiiis.en), .lst 10 (a1.map rw_iiiiiiiiis.en)] = (gatherumref24_Same.f K a0 a1).map gatherumref24_Same.rr.en := app_ap gatherumref24_Same.ra gatherumref24_Same.rr (fun x => gatherumref24_Same.f K x.1 x.2) (a0, a1)
theorem gatherumref24_Same.is : FnIs Try.prog 52 (.init gatherumref24_Same.sg) gatherumref24_Same.t gatherumref24_Same.cf := ⟨Try.f52, gatherumref24_Same.body, 6000, Try.func52, by kernel_rfl, rfl, rfl, by decide +kernel, by kernel_rfl⟩
theorem gatherumref24_Same.l0_den (F : FnE) (K : Nat) (Js : List (List PD → Option (List PD))) (p0 : List (Int × Int × Int × Int × Int × Int × Int × Int × Int × ByteArray)) (p1 : List (Int × Int × Int × Int × Int × Int × Int × Int × Int × ByteArray)) : ∀ (k : Nat) (x0 : Int), iterF (fun J ρ' => den F K gatherumref24_Same.b0 (J :: Js) ρ') k [.lst 10 (p0.map rw_iiiiiiiiis.en), .lst 10 (p1.map rw_iiiiiiiiis.en), .int x0] = (gatherumref24_Same.l0 p0 p1 k x0).map gatherumref24_Same.rr.en := by
  intro k
  induction k with
  | zero => intros; rfl
  | succ k ih =>
    intro x0
    show Sy.den F K gatherumref24_Same.b0 (iterF (fun J ρ' => Sy.den F K gatherumref24_Same.b0 (J :: Js) ρ') k :: Js) [.lst 10 (p0.map rw_iiiiiiiiis.en), .lst 10 (p1.map rw_iiiiiiiiis.en), .int x0] = _
    revert ih
    generalize iterF (fun J ρ' => Sy.den F K gatherumref24_Same.b0 (J :: Js) ρ') k = J0
    intro ih
    rw [gatherumref24_Same.l0]
    show Sy.den F K gatherumref24_Same.b0 _ [.lst 10 (p0.map rw_iiiiiiiiis.en), .lst 10 (p1.map rw_iiiiiiiiis.en), .int x0] = _
    unfold gatherumref24_Same.b0
    refine den_ite (b := (decide (x0 < ((p0.length : Nat) : Int)))) (by simp only [pds, PC.pd, E.ev, B.ev, SE.ev, LE.rows, lensEv, kSl_eq, kPt_eq, ov_prop, List.getElem?_cons_zero, List.getElem?_cons_succ, List.length_map, Nat.add_zero, Nat.zero_add, Option.bind_some, Option.map_some, if_true, Subtype.eta, mxi, mni, List.map_append, List.map_cons, List.map_nil, List.cons_append, List.nil_append, List.append_nil]) ?_ ?_
    refine den_ite (b := (decide (0 ≤ x0))) rfl ?_ ?_
    refine den_get (L := p0) (rw := rw_iiiiiiiiis) rfl rfl rfl fun b0 => ?_
    show Sy.den F K _ _ [.lst 10 (p0.map rw_iiiiiiiiis.en), .lst 10 (p1.map rw_iiiiiiiiis.en), .int x0, .int b0.1, .int b0.2.1, .int b0.2.2.1, .int b0.2.2.2.1, .int b0.2.2.2.2.1, .int b0.2.2.2.2.2.1, .int b0.2.2.2.2.2.2.1, .int b0.2.2.2.2.2.2.2.1, .int b0.2.2.2.2.2.2.2.2.1, .str b0.2.2.2.2.2.2.2.2.2] = _
    refine den_ite (b := (decide (x0 < ((p1.length : Nat) : Int)))) (by simp only [pds, PC.pd, E.ev, B.ev, SE.ev, LE.rows, lensEv, kSl_eq, kPt_eq, ov_prop, List.getElem?_cons_zero, List.getElem?_cons_succ, List.length_map, Nat.add_zero, Nat.zero_add, Option.bind_some, Option.map_some, if_true, Subtype.eta, mxi, mni, List.map_append, List.map_cons, List.map_nil, List.cons_append, List.nil_append, List.append_nil]) ?_ ?_
    refine den_get (L := p1) (rw := rw_iiiiiiiiis) rfl rfl rfl fun b1 => ?_
    show Sy.den F K _ _ [.lst 10 (p0.map rw_iiiiiiiiis.en), .lst 10 (p1.map rw_iiiiiiiiis.en), .int x0, .int b0.1, .int b0.2.1, .int b0.2.2.1, .int b0.2.2.2.1, .int b0.2.2.2.2.1, .int b0.2.2.2.2.2.1, .int b0.2.2.2.2.2.2.1, .int b0.2.2.2.2.2.2.2.1, .int b0.2.2.2.2.2.2.2.2.1, .str b0.2.2.2.2.2.2.2.2.2, .int b1.1, .int b1.2.1, .int b1.2.2.1, .int b1.2.2.2.1, .int b1.2.2.2.2.1, .int b1.2.2.2.2.2.1, .int b1.2.2.2.2.2.2.1, .int b1.2.2.2.2.2.2.2.1, .int b1.2.2.2.2.2.2.2.2.1, .str b1.2.2.2.2.2.2.2.2.2] = _
    refine den_ite (b := (!((b0.1 == b1.1) && ((b0.2.1 == b1.2.1) && ((b0.2.2.1 == b1.2.2.1) && ((b0.2.2.2.1 == b1.2.2.2.1) && ((b0.2.2.2.2.1 == b1.2.2.2.2.1) && ((b0.2.2.2.2.2.1 == b1.2.2.2.2.2.1) && ((b0.2.2.2.2.2.2.1 == b1.2.2.2.2.2.2.1) && ((b0.2.2.2.2.2.2.2.1 == b1.2.2.2.2.2.2.2.1) && ((b0.2.2.2.2.2.2.2.2.1 == b1.2.2.2.2.2.2.2.2.1) && (b0.2.2.2.2.2.2.2.2.2.toList == b1.2.2.2.2.2.2.2.2.2.toList)))))))))))) rfl ?_ ?_
    exact den_ret rfl
    refine den_back (vs := [.int (wrap64 (x0 + 1))]) rfl rfl ?_
    exact ih (wrap64 (x0 + 1))
    exact den_bad _ _ _ _ _
    exact den_bad _ _ _ _ _
    exact den_ret rfl
theorem gatherumref24_Same.den (F : FnE) (K : Nat) (a0 : List (Int × Int × Int × Int × Int × Int × Int × Int × Int × ByteArray)) (a1 : List (Int × Int × Int × Int × Int × Int × Int × Int × Int × ByteArray)) : Sy.den F K gatherumref24_Same.t [] [.lst 10 (a0.map rw_iiiiiiiiis.en), .lst 10 (a1.map rw_iiiiiiiiis.en)] = (gatherumref24_Same.f K a0 a1).map gatherumref24_Same.rr.en := by
  unfold gatherumref24_Same.t gatherumref24_Same.f
  refine den_ite (b := (!(((a0.length : Nat) : Int) == ((a1.length : Nat) : Int)))) (by simp only [pds, PC.pd, E.ev, B.ev, SE.ev, LE.rows, lensEv, kSl_eq, kPt_eq, ov_prop, List.getElem?_cons_zero, List.getElem?_cons_succ, List.length_map, Nat.add_zero, Nat.zero_add, Option.bind_some, Option.map_some, if_true, Subtype.eta, mxi, mni, List.map_append, List.map_cons, List.map_nil, List.cons_append, List.nil_append, List.append_nil]) ?_ ?_
  exact den_ret rfl
  refine den_loop (vs := [.int 0]) rfl ?_
  exact gatherumref24_Same.l0_den F K [] a0 a1 K 0
theorem gatherumref24_Same.ok (F : FnE) (K : Nat) (ps r : List PD) (h : gatherumref24_Same.app K ps = some r) : Sy.den F K gatherumref24_Same.t [] ps = some r := by
  obtain ⟨a, rfl, h2⟩ := app_ok (ra := gatherumref24_Same.ra) (rr := gatherumref24_Same.rr) (f := fun x => gatherumref24_Same.f K x.1 x.2) h
  rw [← h2]
  exact gatherumref24_Same.den F K (a.1) (a.2)
noncomputable def l52 (K : Nat) : List (Nat × App) := (52, gatherumref24_Same.app K) :: l50 K
theorem gd52 (K : Nat) : Sy.Good Try.prog fns (mkF (l52 K)) := good_cons (K := K) gatherumref24_Same.is rfl (by kernel_rfl) (by decide +kernel) envOk relOk relNp mix (gd50 K) noExt_ok (gatherumref24_Same.ok _ K)
end Go.Proofs.Ythgmjhidigoneaa.XFaceTells
