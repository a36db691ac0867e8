/- A symbolic executor for functions of numbers, bools, texts, structs, arrays, slices and loops, and its soundness, first part: AN AGENT'S OWN TEXT. -/
import Derived.WalkKit
import Derived.RowKit
import Derived.Orders
import Derived.Below
import Derived.Laws.IdiomCopy
import Derived.Laws.Cells
import Derived.Laws.Rows
import Derived.Laws.Small
import Derived.Laws.BitsLemmas
import Derived.BigFrame
import Derived.Laws.StructEq
import Derived.Maps.AppendAt
import Derived.Laws.OwnMore
import Derived.Laws.Strings
import Derived.ChangeKeysEq
import Derived.OpenShut
import Derived.ChangeArms
import Derived.WideShapes
import Derived.DataReads
set_option linter.unusedVariables false
set_option linter.unusedSimpArgs false
namespace Go.Proofs.Ytpicoedbkeljoaa.Sy
open Go Go.RowKit
/-! ### 1. Words: what is computed with, over a list of plain data -/
/-- Plain data: a number, a bool, a text, a value that is not looked into, rows. -/
inductive PD where
  | int (n : Int) | bool (x : Bool) | str (s : ByteArray) | oth (v : Value) | lst (sz : Nat) (rows : List (List PD))
inductive E where
  | va (k : Nat) | nu (m : Int) | add (a b : E) | sub (a b : E) | mul (a b : E) | quo (a b : E) | rem (a b : E)
  | and (a b : E) | or (a b : E) | xor (a b : E) | shr (a : E) (s : Nat) | mx (a b : E) | mn (a b : E)
  | lens (ks : List Nat) (c : Nat) | slen (k : Nat)
  deriving DecidableEq
def lensEv (ρ : List PD) : List Nat → Option Nat
  | [] => some 0
  | k :: ks => match ρ[k]? with
    | some (.lst _ rows) => (lensEv ρ ks).map (rows.length + ·)
    | _ => none
def E.ev (ρ : List PD) : E → Option Int
  | .va k => match ρ[k]? with | some (.int n) => some n | _ => none
  | .nu m => some m
  | .add a b => (a.ev ρ).bind fun x => (b.ev ρ).bind fun y => some (wrap64 (x + y))
  | .sub a b => (a.ev ρ).bind fun x => (b.ev ρ).bind fun y => some (wrap64 (x - y))
  | .mul a b => (a.ev ρ).bind fun x => (b.ev ρ).bind fun y => some (wrap64 (x * y))
  | .quo a b => (a.ev ρ).bind fun x => (b.ev ρ).bind fun y => some (wrap64 (Int.tdiv x y))
  | .rem a b => (a.ev ρ).bind fun x => (b.ev ρ).bind fun y => some (Int.tmod x y)
  | .and a b => (a.ev ρ).bind fun x => (b.ev ρ).bind fun y => some (bits .and .i64 x y)
  | .or a b => (a.ev ρ).bind fun x => (b.ev ρ).bind fun y => some (bits .or .i64 x y)
  | .xor a b => (a.ev ρ).bind fun x => (b.ev ρ).bind fun y => some (bits .xor .i64 x y)
  | .shr a s => (a.ev ρ).bind fun x => some (x / 2 ^ s)
  | .mx a b => (a.ev ρ).bind fun x => (b.ev ρ).bind fun y => some (if x < y then y else x)
  | .mn a b => (a.ev ρ).bind fun x => (b.ev ρ).bind fun y => some (if y < x then y else x)
  | .lens ks c => (lensEv ρ ks).bind fun n => some ((n + c : Nat) : Int)
  | .slen k => match ρ[k]? with | some (.str s) => some (s.size : Int) | _ => none
inductive SE where
  | va (k : Nat) | co (s : ByteArray)
  deriving DecidableEq
def SE.ev (ρ : List PD) : SE → Option ByteArray
  | .va k => match ρ[k]? with | some (.str s) => some s | _ => none
  | .co s => some s
inductive B where
  | va (k : Nat) | co (x : Bool) | lt (a b : E) | le (a b : E) | eq (a b : E) | not (a : B) | and (a b : B) | eqb (a b : B) | eqs (a b : SE)
  deriving DecidableEq
def B.ev (ρ : List PD) : B → Option Bool
  | .va k => match ρ[k]? with | some (.bool x) => some x | _ => none
  | .co x => some x
  | .lt a b => (a.ev ρ).bind fun x => (b.ev ρ).bind fun y => some (decide (x < y))
  | .le a b => (a.ev ρ).bind fun x => (b.ev ρ).bind fun y => some (decide (x ≤ y))
  | .eq a b => (a.ev ρ).bind fun x => (b.ev ρ).bind fun y => some (x == y)
  | .not a => (a.ev ρ).bind fun x => some (!x)
  | .and a b => (a.ev ρ).bind fun x => (b.ev ρ).bind fun y => some (x && y)
  | .eqb a b => (a.ev ρ).bind fun x => (b.ev ρ).bind fun y => some (x == y)
  | .eqs a b => (a.ev ρ).bind fun x => (b.ev ρ).bind fun y => some (x.toList == y.toList)
/-- A cell: a number, a bool, a text, a value not looked into, a fixed value, an address in a block of the call's own, a slice, an element's address. -/
inductive C where
  | ex (x : E) | bo (x : B) | so (x : SE) | op (k : Nat) | kv (v : Value) | pt (g off : Nat) | hd (g : Nat) | ep (g : Nat) (i : E) (sz off : Nat)
/-- What a number of the executor stands for: a block, or a slice. -/
inductive Mb where
  | bk (b : Nat) | ow (a : Option Addr) (n c : Nat)
abbrev Bm := Nat → Option Mb
def epV : Option Mb → Option Int → Nat → Nat → Option Value
  | some (.ow (some ⟨b, o, none⟩) _ _), some i, sz, off => some (.pointer (some ⟨b, o + i.toNat * sz + off, none⟩))
  | _, _, _, _ => none
def C.ev (m : Bm) (ρ : List PD) : C → Option Value
  | .ex x => (x.ev ρ).map (Value.int .i64)
  | .bo x => (x.ev ρ).map Value.bool
  | .so x => (x.ev ρ).map Value.string
  | .op k => match ρ[k]? with | some (.oth v) => if v.oneCell' = true then some v else none | _ => none
  | .kv v => if v.oneCell' = true then some v else none
  | .pt g off => match m g with | some (.bk b) => some (.pointer (some ⟨b, off, none⟩)) | _ => none
  | .hd g => match m g with | some (.ow a n c) => some (.slice a n c) | _ => none
  | .ep g i sz off => epV (m g) (i.ev ρ) sz off
def evs (m : Bm) (ρ : List PD) : List C → Option (List Value)
  | [] => some []
  | c :: cs => (c.ev m ρ).bind fun v => (evs m ρ cs).bind fun vs => some (v :: vs)
inductive T1 where
  | ce (x : C) | ag (l : List C)
def T1.ev (m : Bm) (ρ : List PD) : T1 → Option Value
  | .ce x => x.ev m ρ
  | .ag l => (evs m ρ l).map fun vs => .agg vs.toArray
def T1.evs (m : Bm) (ρ : List PD) : List T1 → Option (List Value)
  | [] => some []
  | c :: cs => (c.ev m ρ).bind fun v => (T1.evs m ρ cs).bind fun vs => some (v :: vs)
inductive SV where
  | one (t : T1) | tup (l : List T1) | und
def SV.ev (m : Bm) (ρ : List PD) : SV → Option Value
  | .one t => t.ev m ρ
  | .tup l => (T1.evs m ρ l).map fun vs => .tuple vs.toArray
  | .und => some undef
/-- A cell that is plain: what leaves the call. -/
inductive PC where
  | ex (x : E) | bo (x : B) | so (x : SE) | op (k : Nat) | kv (v : Value) | li (k : Nat) | nl (sz : Nat)
def PC.pd (ρ : List PD) : PC → Option PD
  | .ex x => (x.ev ρ).map PD.int
  | .bo x => (x.ev ρ).map PD.bool
  | .so x => (x.ev ρ).map PD.str
  | .op k => match ρ[k]? with | some (.oth v) => if v.oneCell' = true then some (.oth v) else none | _ => none
  | .kv v => if v.oneCell' = true then some (.oth v) else none
  | .li k => match ρ[k]? with | some (.lst sz rows) => some (.lst sz rows) | _ => none
  | .nl sz => some (.lst sz [])
def pds (ρ : List PD) : List PC → Option (List PD)
  | [] => some []
  | c :: cs => (c.pd ρ).bind fun v => (pds ρ cs).bind fun vs => some (v :: vs)
inductive Seg where
  | va (k : Nat) | row (l : List PC)
abbrev LE := List Seg
def LE.rows (ρ : List PD) : LE → Option (List (List PD))
  | [] => some []
  | .va k :: l => match ρ[k]? with
    | some (.lst _ rows) => (LE.rows ρ l).map (rows ++ ·)
    | _ => none
  | .row r :: l => (pds ρ r).bind fun x => (LE.rows ρ l).map (x :: ·)

/-! what is told once stays told -/
def Bm.le (m m' : Bm) : Prop := ∀ g b, m g = some b → m' g = some b
def Pre (ρ ρ' : List PD) : Prop := ∀ (k : Nat) s, ρ[k]? = some s → ρ'[k]? = some s
theorem Pre.append (ρ l : List PD) : Pre ρ (ρ ++ l) := fun k s h => by
  have : k < ρ.length := (List.getElem?_eq_some_iff.1 h).1
  rw [List.getElem?_append_left this]; exact h
theorem Pre.refl (ρ : List PD) : Pre ρ ρ := fun _ _ h => h
theorem Pre.trans {a b c : List PD} (h : Pre a b) (k : Pre b c) : Pre a c := fun i s hi => k i s (h i s hi)
theorem Bm.le_refl (m : Bm) : Bm.le m m := fun _ _ h => h
theorem Bm.le_trans {a b c : Bm} (h : Bm.le a b) (k : Bm.le b c) : Bm.le a c := fun i s hi => k i s (h i s hi)
theorem bind2 {α β γ : Type} {a a' : Option α} {b b' : Option β} {f : α → β → Option γ} {r : γ} (ha : ∀ x, a = some x → a' = some x) (hb : ∀ x, b = some x → b' = some x)
    (h : (a.bind fun x => b.bind fun y => f x y) = some r) : (a'.bind fun x => b'.bind fun y => f x y) = some r := by
  cases a with
  | none => simp at h
  | some x => cases b with
    | none => simp at h
    | some y => rw [ha x rfl, hb y rfl]; exact h
theorem bind1 {α γ : Type} {a a' : Option α} {f : α → Option γ} {r : γ} (ha : ∀ x, a = some x → a' = some x) (h : (a.bind f) = some r) : (a'.bind f) = some r := by
  cases a with
  | none => simp at h
  | some x => rw [ha x rfl]; exact h
theorem map1 {α β : Type} {a a' : Option α} {f : α → β} {r : β} (ha : ∀ x, a = some x → a' = some x) (h : a.map f = some r) : a'.map f = some r := by
  cases a with
  | none => simp at h
  | some x => rw [ha x rfl]; exact h
theorem var1 {β : Type} {ρ ρ' : List PD} (hp : Pre ρ ρ') {k : Nat} {f : Option PD → Option β} (hf : f none = none) {r : β} (h : f ρ[k]? = some r) : f ρ'[k]? = some r := by
  cases hk : ρ[k]? with
  | none => rw [hk, hf] at h; cases h
  | some s => rw [hk] at h; rw [hp k s hk]; exact h
theorem lensEv_mono {ρ ρ' : List PD} (hp : Pre ρ ρ') : ∀ (ks : List Nat) (n : Nat), lensEv ρ ks = some n → lensEv ρ' ks = some n
  | [], _, h => h
  | k :: ks, n, h => by
    simp only [lensEv] at h ⊢
    cases hk : ρ[k]? with
    | none => rw [hk] at h; simp at h
    | some s =>
      rw [hk] at h
      rw [hp k s hk]
      cases s with
      | lst sz rows => exact map1 (lensEv_mono hp ks) h
      | _ => simp at h
theorem E.mono {ρ ρ' : List PD} (hp : Pre ρ ρ') : ∀ (x : E) (n : Int), x.ev ρ = some n → x.ev ρ' = some n
  | .va k, n, h => var1 hp (f := fun o => match o with | some (.int n) => some n | _ => none) rfl h
  | .nu _, _, h => h
  | .add a b, n, h => bind2 (E.mono hp a) (E.mono hp b) h
  | .sub a b, n, h => bind2 (E.mono hp a) (E.mono hp b) h
  | .mul a b, n, h => bind2 (E.mono hp a) (E.mono hp b) h
  | .quo a b, n, h => bind2 (E.mono hp a) (E.mono hp b) h
  | .rem a b, n, h => bind2 (E.mono hp a) (E.mono hp b) h
  | .and a b, n, h => bind2 (E.mono hp a) (E.mono hp b) h
  | .or a b, n, h => bind2 (E.mono hp a) (E.mono hp b) h
  | .xor a b, n, h => bind2 (E.mono hp a) (E.mono hp b) h
  | .shr a s, n, h => bind1 (E.mono hp a) h
  | .mx a b, n, h => bind2 (E.mono hp a) (E.mono hp b) h
  | .mn a b, n, h => bind2 (E.mono hp a) (E.mono hp b) h
  | .lens ks c, n, h => bind1 (lensEv_mono hp ks) h
  | .slen k, n, h => var1 hp (f := fun o => match o with | some (.str s) => some (s.size : Int) | _ => none) rfl h
theorem SE.mono {ρ ρ' : List PD} (hp : Pre ρ ρ') : ∀ (x : SE) (n : ByteArray), x.ev ρ = some n → x.ev ρ' = some n
  | .va k, n, h => var1 hp (f := fun o => match o with | some (.str n) => some n | _ => none) rfl h
  | .co _, _, h => h
theorem B.mono {ρ ρ' : List PD} (hp : Pre ρ ρ') : ∀ (x : B) (n : Bool), x.ev ρ = some n → x.ev ρ' = some n
  | .va k, n, h => var1 hp (f := fun o => match o with | some (.bool n) => some n | _ => none) rfl h
  | .co _, _, h => h
  | .lt a b, n, h => bind2 (E.mono hp a) (E.mono hp b) h
  | .le a b, n, h => bind2 (E.mono hp a) (E.mono hp b) h
  | .eq a b, n, h => bind2 (E.mono hp a) (E.mono hp b) h
  | .not a, n, h => bind1 (B.mono hp a) h
  | .and a b, n, h => bind2 (B.mono hp a) (B.mono hp b) h
  | .eqb a b, n, h => bind2 (B.mono hp a) (B.mono hp b) h
  | .eqs a b, n, h => bind2 (SE.mono hp a) (SE.mono hp b) h
theorem epV_mono {x x' : Option Mb} {i i' : Option Int} {sz off : Nat} {v : Value} (hx : ∀ b, x = some b → x' = some b) (hi : ∀ b, i = some b → i' = some b) (h : epV x i sz off = some v) : epV x' i' sz off = some v := by
  unfold epV at h
  split at h
  · rw [hx _ rfl, hi _ rfl]; exact h
  · cases h
theorem C.mono {m m' : Bm} {ρ ρ' : List PD} (hm : Bm.le m m') (hp : Pre ρ ρ') : ∀ (x : C) (v : Value), x.ev m ρ = some v → x.ev m' ρ' = some v
  | .ex x, _, h => map1 (E.mono hp x) h
  | .bo x, _, h => map1 (B.mono hp x) h
  | .so x, _, h => map1 (SE.mono hp x) h
  | .op k, v, h => var1 hp (f := fun o => match o with | some (.oth v) => if v.oneCell' = true then some v else none | _ => none) rfl h
  | .kv _, _, h => h
  | .pt g off, v, h => by
    simp only [C.ev] at h ⊢
    cases hg : m g with
    | none => rw [hg] at h; cases h
    | some b => rw [hg] at h; rw [hm g b hg]; exact h
  | .hd g, v, h => by
    simp only [C.ev] at h ⊢
    cases hg : m g with
    | none => rw [hg] at h; cases h
    | some b => rw [hg] at h; rw [hm g b hg]; exact h
  | .ep g i sz off, v, h => epV_mono (hm g) (E.mono hp i) h
theorem evs_mono {m m' : Bm} {ρ ρ' : List PD} (hm : Bm.le m m') (hp : Pre ρ ρ') : ∀ (l : List C) (vs : List Value), evs m ρ l = some vs → evs m' ρ' l = some vs
  | [], _, h => h
  | c :: cs, _, h => bind2 (C.mono hm hp c) (evs_mono hm hp cs) h
theorem T1.mono {m m' : Bm} {ρ ρ' : List PD} (hm : Bm.le m m') (hp : Pre ρ ρ') : ∀ (x : T1) (v : Value), x.ev m ρ = some v → x.ev m' ρ' = some v
  | .ce x, v, h => C.mono hm hp x v h
  | .ag l, _, h => map1 (evs_mono hm hp l) h
theorem T1.evs_mono {m m' : Bm} {ρ ρ' : List PD} (hm : Bm.le m m') (hp : Pre ρ ρ') : ∀ (l : List T1) (vs : List Value), T1.evs m ρ l = some vs → T1.evs m' ρ' l = some vs
  | [], _, h => h
  | c :: cs, _, h => bind2 (T1.mono hm hp c) (T1.evs_mono hm hp cs) h
theorem SV.mono {m m' : Bm} {ρ ρ' : List PD} (hm : Bm.le m m') (hp : Pre ρ ρ') : ∀ (x : SV) (v : Value), x.ev m ρ = some v → x.ev m' ρ' = some v
  | .one t, v, h => T1.mono hm hp t v h
  | .tup l, _, h => map1 (T1.evs_mono hm hp l) h
  | .und, _, h => h
theorem PC.mono {ρ ρ' : List PD} (hp : Pre ρ ρ') : ∀ (x : PC) (v : PD), x.pd ρ = some v → x.pd ρ' = some v
  | .ex x, _, h => map1 (E.mono hp x) h
  | .bo x, _, h => map1 (B.mono hp x) h
  | .so x, _, h => map1 (SE.mono hp x) h
  | .op k, v, h => var1 hp (f := fun o => match o with | some (.oth v) => if v.oneCell' = true then some (PD.oth v) else none | _ => none) rfl h
  | .kv _, _, h => h
  | .li k, v, h => var1 hp (f := fun o => match o with | some (.lst sz rows) => some (PD.lst sz rows) | _ => none) rfl h
  | .nl _, _, h => h
theorem pds_mono {ρ ρ' : List PD} (hp : Pre ρ ρ') : ∀ (l : List PC) (vs : List PD), pds ρ l = some vs → pds ρ' l = some vs
  | [], _, h => h
  | c :: cs, _, h => bind2 (PC.mono hp c) (pds_mono hp cs) h
theorem LE.mono {ρ ρ' : List PD} (hp : Pre ρ ρ') : ∀ (l : LE) (vs : List (List PD)), LE.rows ρ l = some vs → LE.rows ρ' l = some vs
  | [], _, h => h
  | .va k :: l, vs, h => by
    simp only [LE.rows] at h ⊢
    cases hk : ρ[k]? with
    | none => rw [hk] at h; simp at h
    | some s =>
      rw [hk] at h
      rw [hp k s hk]
      cases s with
      | lst sz rows => exact map1 (LE.mono hp l) h
      | _ => simp at h
  | .row r :: l, vs, h => by
    simp only [LE.rows, Option.bind_eq_some_iff, Option.map_eq_some_iff] at h ⊢
    obtain ⟨x, hx, y, hy, rfl⟩ := h
    exact ⟨x, pds_mono hp r x hx, y, LE.mono hp l y hy, rfl⟩
/-! what plain data a value is -/
/-- In the world w, with what is in the blocks S: the value is this data. -/
inductive Rep (w : World) (S : Nat → Prop) : PD → Value → Prop where
  | int (n : Int) : Rep w S (.int n) (.int .i64 n)
  | bool (x : Bool) : Rep w S (.bool x) (.bool x)
  | str (s : ByteArray) : Rep w S (.str s) (.string s)
  | oth (v : Value) (h : v.oneCell' = true) : Rep w S (.oth v) v
  | lst (sz : Nat) (rows : List (List PD)) (a : Option Addr) (c : Nat) (vals : Nat → Nat → Value) (hlen : ∀ row ∈ rows, row.length = sz) (hmax : rows.length ≤ maxLen)
      (hmem : rows ≠ [] → ∃ b off, a = some ⟨b, off, none⟩ ∧ S b ∧ ∀ i j, i < rows.length → j < sz → w.cell? ⟨b, off + i * sz + j, none⟩ = some (vals i j))
      (hnil : a = none → rows = [] ∧ c = 0) (hspot : rows ≠ [] → ∀ ad, a = some ad → ad.spot = none) (hcap : rows.length ≤ c)
      (hrep : ∀ i j row p, rows[i]? = some row → row[j]? = some p → Rep w S p (vals i j)) : Rep w S (.lst sz rows) (.slice a rows.length c)
theorem Rep.mono {w w' : World} {S S' : Nat → Prop} (hS : ∀ b, S b → S' b) (hw : ∀ b, S b → w'.heap[b]? = w.heap[b]?) {p : PD} {v : Value} (h : Rep w S p v) : Rep w' S' p v := by
  induction h with
  | int n => exact .int n
  | bool x => exact .bool x
  | str s => exact .str s
  | oth v h => exact .oth v h
  | lst sz rows a c vals hlen hmax hmem hnil hspot hcap hrep ih =>
    refine .lst sz rows a c vals hlen hmax (fun hne => ?_) hnil hspot hcap ih
    obtain ⟨b, off, h1, h2, h3⟩ := hmem hne
    refine ⟨b, off, h1, hS b h2, fun i j hi hj => ?_⟩
    rw [World.cell?_of_block (hw b h2)]
    exact h3 i j hi hj
theorem Rep.one {w : World} {S : Nat → Prop} {p : PD} {v : Value} (h : Rep w S p v) : v.oneCell' = true := by
  cases h <;> first | rfl | assumption
/-! ### 2. Numbers and tests, folded where both sides are fixed -/
def E.add' : E → E → E
  | .nu x, .nu y => .nu (wrap64 (x + y))
  | a, b => .add a b
def E.sub' : E → E → E
  | .nu x, .nu y => .nu (wrap64 (x - y))
  | a, b => .sub a b
def E.mul' : E → E → E
  | .nu x, .nu y => .nu (wrap64 (x * y))
  | a, b => .mul a b
def E.quo' : E → E → E
  | .nu x, .nu y => .nu (wrap64 (Int.tdiv x y))
  | a, b => .quo a b
def E.rem' : E → E → E
  | .nu x, .nu y => .nu (Int.tmod x y)
  | a, b => .rem a b
def E.and' : E → E → E
  | .nu x, .nu y => .nu (bits .and .i64 x y)
  | a, b => .and a b
def E.or' : E → E → E
  | .nu x, .nu y => .nu (bits .or .i64 x y)
  | a, b => .or a b
def E.xor' : E → E → E
  | .nu x, .nu y => .nu (bits .xor .i64 x y)
  | a, b => .xor a b
def E.shr' (a : E) (s : Nat) : E := match a with
  | .nu x => .nu (x / 2 ^ s)
  | a => .shr a s
def E.mx' : E → E → E
  | .nu x, .nu y => .nu (if x < y then y else x)
  | a, b => .mx a b
def E.mn' : E → E → E
  | .nu x, .nu y => .nu (if y < x then y else x)
  | a, b => .mn a b
def B.lt' : E → E → B
  | .nu x, .nu y => .co (decide (x < y))
  | a, b => .lt a b
def B.le' : E → E → B
  | .nu x, .nu y => .co (decide (x ≤ y))
  | a, b => .le a b
def B.eq' (a b : E) : B := if a = b then .co true else match a, b with
  | .nu x, .nu y => .co (x == y)
  | a, b => .eq a b
def B.not' : B → B
  | .co x => .co !x
  | .not a => a
  | a => .not a
def B.and' : B → B → B
  | .co true, b => b
  | .co false, _ => .co false
  | a, .co true => a
  | a, b => .and a b
def B.eqb' (a b : B) : B := if a = b then .co true else match a, b with
  | .co x, .co y => .co (x == y)
  | .co true, b => b
  | .co false, b => b.not'
  | a, .co true => a
  | a, .co false => a.not'
  | a, b => .eqb a b
section
variable {ρ : List PD} {a b : E} {x y : Int} {p q : B} {u v : Bool}
theorem E.add'_ev (ha : a.ev ρ = some x) (hb : b.ev ρ = some y) : (E.add' a b).ev ρ = some (wrap64 (x + y)) := by
  unfold E.add'; split
  · simp only [E.ev, Option.some.injEq] at *; subst ha hb; rfl
  · simp [E.ev, ha, hb]
theorem E.sub'_ev (ha : a.ev ρ = some x) (hb : b.ev ρ = some y) : (E.sub' a b).ev ρ = some (wrap64 (x - y)) := by
  unfold E.sub'; split
  · simp only [E.ev, Option.some.injEq] at *; subst ha hb; rfl
  · simp [E.ev, ha, hb]
theorem E.mul'_ev (ha : a.ev ρ = some x) (hb : b.ev ρ = some y) : (E.mul' a b).ev ρ = some (wrap64 (x * y)) := by
  unfold E.mul'; split
  · simp only [E.ev, Option.some.injEq] at *; subst ha hb; rfl
  · simp [E.ev, ha, hb]
theorem E.quo'_ev (ha : a.ev ρ = some x) (hb : b.ev ρ = some y) : (E.quo' a b).ev ρ = some (wrap64 (Int.tdiv x y)) := by
  unfold E.quo'; split
  · simp only [E.ev, Option.some.injEq] at *; subst ha hb; rfl
  · simp [E.ev, ha, hb]
theorem E.rem'_ev (ha : a.ev ρ = some x) (hb : b.ev ρ = some y) : (E.rem' a b).ev ρ = some (Int.tmod x y) := by
  unfold E.rem'; split
  · simp only [E.ev, Option.some.injEq] at *; subst ha hb; rfl
  · simp [E.ev, ha, hb]
theorem E.and'_ev (ha : a.ev ρ = some x) (hb : b.ev ρ = some y) : (E.and' a b).ev ρ = some (bits .and .i64 x y) := by
  unfold E.and'; split
  · simp only [E.ev, Option.some.injEq] at *; subst ha hb; rfl
  · simp [E.ev, ha, hb]
theorem E.or'_ev (ha : a.ev ρ = some x) (hb : b.ev ρ = some y) : (E.or' a b).ev ρ = some (bits .or .i64 x y) := by
  unfold E.or'; split
  · simp only [E.ev, Option.some.injEq] at *; subst ha hb; rfl
  · simp [E.ev, ha, hb]
theorem E.xor'_ev (ha : a.ev ρ = some x) (hb : b.ev ρ = some y) : (E.xor' a b).ev ρ = some (bits .xor .i64 x y) := by
  unfold E.xor'; split
  · simp only [E.ev, Option.some.injEq] at *; subst ha hb; rfl
  · simp [E.ev, ha, hb]
theorem E.shr'_ev (s : Nat) (ha : a.ev ρ = some x) : (E.shr' a s).ev ρ = some (x / 2 ^ s) := by
  unfold E.shr'; split
  · simp only [E.ev, Option.some.injEq] at *; subst ha; rfl
  · simp [E.ev, ha]
theorem E.mx'_ev (ha : a.ev ρ = some x) (hb : b.ev ρ = some y) : (E.mx' a b).ev ρ = some (if x < y then y else x) := by
  unfold E.mx'; split
  · simp only [E.ev, Option.some.injEq] at *; subst ha hb; rfl
  · simp [E.ev, ha, hb]
theorem E.mn'_ev (ha : a.ev ρ = some x) (hb : b.ev ρ = some y) : (E.mn' a b).ev ρ = some (if y < x then y else x) := by
  unfold E.mn'; split
  · simp only [E.ev, Option.some.injEq] at *; subst ha hb; rfl
  · simp [E.ev, ha, hb]
theorem B.lt'_ev (ha : a.ev ρ = some x) (hb : b.ev ρ = some y) : (B.lt' a b).ev ρ = some (decide (x < y)) := by
  unfold B.lt'; split
  · simp only [E.ev, B.ev, Option.some.injEq] at *; subst ha hb; rfl
  · simp [B.ev, ha, hb]
theorem B.le'_ev (ha : a.ev ρ = some x) (hb : b.ev ρ = some y) : (B.le' a b).ev ρ = some (decide (x ≤ y)) := by
  unfold B.le'; split
  · simp only [E.ev, B.ev, Option.some.injEq] at *; subst ha hb; rfl
  · simp [B.ev, ha, hb]
theorem B.eq'_ev (ha : a.ev ρ = some x) (hb : b.ev ρ = some y) : (B.eq' a b).ev ρ = some (x == y) := by
  unfold B.eq'; split
  · rename_i h; subst h; rw [ha] at hb; cases hb; simp [B.ev]
  · split
    · simp only [E.ev, B.ev, Option.some.injEq] at *; subst ha hb; rfl
    · simp [B.ev, ha, hb]
theorem B.not'_ev (hp : p.ev ρ = some u) : (B.not' p).ev ρ = some (!u) := by
  unfold B.not'; split
  · simp only [B.ev, Option.some.injEq] at *; subst hp; rfl
  · rename_i a; simp only [B.ev] at hp
    cases h : a.ev ρ with
    | none => rw [h] at hp; simp at hp
    | some z => rw [h] at hp; simp at hp; subst hp; simp
  · simp [B.ev, hp]
theorem B.and'_ev (hp : p.ev ρ = some u) (hq : q.ev ρ = some v) : (B.and' p q).ev ρ = some (u && v) := by
  unfold B.and'; split
  · simp only [B.ev, Option.some.injEq] at hp; subst hp; simpa using hq
  · simp only [B.ev, Option.some.injEq] at hp; subst hp; rfl
  · simp only [B.ev, Option.some.injEq] at hq; subst hq; simpa using hp
  · simp [B.ev, hp, hq]
theorem B.eqb'_ev (hp : p.ev ρ = some u) (hq : q.ev ρ = some v) : (B.eqb' p q).ev ρ = some (u == v) := by
  unfold B.eqb'; split
  · rename_i h; subst h; rw [hp] at hq; cases hq; simp [B.ev]
  · split
    · simp only [B.ev, Option.some.injEq] at *; subst hp hq; rfl
    · simp only [B.ev, Option.some.injEq] at hp; subst hp; simpa using hq
    · simp only [B.ev, Option.some.injEq] at hp; subst hp; rw [B.not'_ev hq]; cases v <;> rfl
    · simp only [B.ev, Option.some.injEq] at hq; subst hq; simpa using hp
    · simp only [B.ev, Option.some.injEq] at hq; subst hq; rw [B.not'_ev hp]; cases u <;> rfl
    · simp [B.ev, hp, hq]
end
def E.lens' (ks : List Nat) (c : Nat) : E := match ks with
  | [] => .nu (c : Int)
  | ks => .lens ks c
theorem E.lens'_ev {ρ : List PD} {ks : List Nat} {c n : Nat} (h : lensEv ρ ks = some n) : (E.lens' ks c).ev ρ = some ((n + c : Nat) : Int) := by
  unfold E.lens'; split
  · simp only [lensEv, Option.some.injEq] at h; subst h; simp [E.ev]
  · simp [E.ev, h]
def B.eqs' (a b : SE) : B := if a = b then .co true else match a, b with
  | .co x, .co y => .co (x.toList == y.toList)
  | a, b => .eqs a b
theorem B.eqs'_ev {ρ : List PD} {a b : SE} {x y : ByteArray} (ha : a.ev ρ = some x) (hb : b.ev ρ = some y) : (B.eqs' a b).ev ρ = some (x.toList == y.toList) := by
  unfold B.eqs'; split
  · rename_i h; subst h; rw [ha] at hb; cases hb; simp [B.ev]
  · split
    · simp only [SE.ev, B.ev, Option.some.injEq] at *; subst ha hb; rfl
    · simp [B.ev, ha, hb]
/-! ### 3. What one operation does, in words -/
def lk {α : Type} (k : Nat) : List (Nat × α) → Option α
  | [] => none
  | (j, x) :: l => if j = k then some x else lk k l
structure TD where
  desc : TypeDesc
  zv : Value
  sz : Nat
  bs : Nat
inductive K2 where
  | i | b | s
  deriving DecidableEq
inductive K4 where
  | i | b | s | o | l (et sz : Nat)
  deriving DecidableEq
def K4.ok : K4 → PD → Bool
  | .i, .int _ => true
  | .b, .bool _ => true
  | .s, .str _ => true
  | .o, .oth v => v.oneCell'
  | .l _ sz, .lst sz' _ => decide (sz = sz')
  | _, _ => false
def K4.oks : List K4 → List PD → Bool
  | [], [] => true
  | k :: ks, p :: ps => k.ok p && K4.oks ks ps
  | _, _ => false
theorem K4.oks_length : ∀ {ks : List K4} {ps : List PD}, K4.oks ks ps = true → ps.length = ks.length
  | [], [], _ => rfl
  | _ :: _, _ :: _, h => by simp only [K4.oks, Bool.and_eq_true] at h; simp [K4.oks_length h.2]
  | [], _ :: _, h => by simp [K4.oks] at h
  | _ :: _, [], h => by simp [K4.oks] at h
theorem K4.oks_get : ∀ {ks : List K4} {ps : List PD}, K4.oks ks ps = true → ∀ {j : Nat} {k : K4} {p : PD}, ks[j]? = some k → ps[j]? = some p → k.ok p = true
  | k :: ks, p :: ps, h, 0, k', p', hk, hp => by
    simp only [K4.oks, Bool.and_eq_true] at h
    simp at hk hp; subst hk hp; exact h.1
  | k :: ks, p :: ps, h, j + 1, k', p', hk, hp => by
    simp only [K4.oks, Bool.and_eq_true] at h
    exact K4.oks_get h.2 (j := j) (by simpa using hk) (by simpa using hp)
  | [], _, h, j, _, _, hk, _ => by simp at hk
  | _ :: _, [], h, j, _, _, _, hp => by simp at hp
def K4.cell (k g : Nat) : K4 → C
  | .i => .ex (.va k)
  | .b => .bo (.va k)
  | .s => .so (.va k)
  | .o => .op k
  | .l _ _ => .hd g
def kcells : Nat → Nat → List K4 → List C
  | _, _, [] => []
  | k, g, x :: xs => x.cell k g :: kcells (k + 1) (g + 1) xs
inductive HC where
  | blk (cs : List C) (t : Nat) | own (L : LE) (et sz : Nat) | per (k et sz : Nat)
def HC.wr : HC → Bool
  | .per _ _ _ => false
  | _ => true
def knews : Nat → Nat → List K4 → List (Nat × Option HC)
  | _, _, [] => []
  | k, g, .l et sz :: xs => (g, some (.per k et sz)) :: knews (k + 1) (g + 1) xs
  | k, g, _ :: xs => knews (k + 1) (g + 1) xs
/-- The shapes of what a function takes and answers. -/
inductive S1 where
  | one (k : K4) | agg (l : List K4)
inductive Sh where
  | one (s : S1) | tup (l : List S1)
def S1.ks : S1 → List K4
  | .one k => [k]
  | .agg l => l
def S1.t1 (k g : Nat) : S1 → T1
  | .one x => .ce (x.cell k g)
  | .agg l => .ag (kcells k g l)
def t1sFrom (k g : Nat) : List S1 → List T1
  | [] => []
  | x :: xs => x.t1 k g :: t1sFrom (k + x.ks.length) (g + x.ks.length) xs
def sks : List S1 → List K4
  | [] => []
  | x :: xs => x.ks ++ sks xs
def Sh.ks : Sh → List K4
  | .one s => s.ks
  | .tup l => sks l
def Sh.sv (k g : Nat) : Sh → SV
  | .one s => .one (s.t1 k g)
  | .tup l => .tup (t1sFrom k g l)
structure Env where
  tys : List (Nat × TD)
  eqs : List (Nat × List K2)
  kds : List (Nat × List K4)
  fs : List (Nat × List S1 × Sh)
def K2.of : K2 → Value → Prop
  | .i, .int .i64 _ => True
  | .b, .bool _ => True
  | .s, .string _ => True
  | _, _ => False
def KsOf : List K2 → List Value → Prop
  | [], [] => True
  | k :: ks, v :: vs => k.of v ∧ KsOf ks vs
  | _, _ => False
def valEq : Value → Value → Bool
  | .int _ a, .int _ b => a == b
  | .bool a, .bool b => a == b
  | .string a, .string b => a.toList == b.toList
  | _, _ => false
def allEq : List Value → List Value → Bool
  | [], [] => true
  | v :: vs, u :: us => valEq v u && allEq vs us
  | _, _ => false
structure EnvOk (P : Program) (env : Env) : Prop where
  tys : ∀ t d, env.tys.lookup t = some d → P.underlying t = some d.desc ∧ ∃ i, P.info? t = some i ∧ i.zero = some d.zv ∧ i.size = d.sz ∧ i.bytes = d.bs
  eqs : ∀ t ks, env.eqs.lookup t = some ks → ∀ xs ys, KsOf ks xs → KsOf ks ys → ∀ (o1 o2 : Operand) (w : World),
    ((do eqGuard .eql t o1 o2 (.agg xs.toArray) (.agg ys.toArray); binOp .eql t (.agg xs.toArray) (.agg ys.toArray)) : Sem Value).run P w = .ok (.bool (allEq xs ys)) w ∧
    ((do eqGuard .neq t o1 o2 (.agg xs.toArray) (.agg ys.toArray); binOp .neq t (.agg xs.toArray) (.agg ys.toArray)) : Sem Value).run P w = .ok (.bool (!allEq xs ys)) w
/-- What an operation sees: the slots, the call's own blocks, what is known, the first free number, the rows that were read, the calls that were made. -/
structure Rd where
  tm : Nat → SV
  hp : Nat → Option HC
  kn : B → Option Bool
  nb : Nat
  gm : List (Nat × E × Nat × List K4)
  cm : List (Nat × List PC × Nat)
  dr : Bool
inductive Eff where
  | ok (v : SV) (upd : List (Nat × Option HC)) | call (f : Nat) (pcs : List PC) (k0 : Nat) (sh : Sh) | fork (c : B) | getr (k : Nat) (i : E) (ks : List K4) | fix (g : Nat) | ask (f : Nat) (pcs : List PC) | bad
abbrev Eff.val (v : SV) : Eff := .ok v []
def liftC : Value → Option C
  | .int .i64 n => some (.ex (.nu n))
  | .bool b => some (.bo (.co b))
  | .string s => some (.so (.co s))
  | .slice none n c => some (.kv (.slice none n c))
  | .pointer none => some (.kv (.pointer none))
  | _ => none
def liftCs : List Value → Option (List C)
  | [] => some []
  | v :: vs => (liftC v).bind fun c => (liftCs vs).bind fun cs => some (c :: cs)
def lift : Value → Option T1
  | .agg cs => (liftCs cs.toList).map .ag
  | v => (liftC v).map .ce
def opv (r : Rd) : Operand → SV
  | .tmp t => r.tm t
  | .const v => match lift v with | some t => .one t | none => .und
  | _ => .und
/-- A value handed on. -/
def opm (r : Rd) (x : Operand) : Eff := match opv r x with | .und => .bad | v => .val v
def op1 (r : Rd) (x : Operand) : Option T1 := match opv r x with | .one t => some t | _ => none
def opc (r : Rd) (x : Operand) : Option C := match opv r x with | .one (.ce c) => some c | _ => none
def opl (r : Rd) (x : Operand) : Option (List C) := match opv r x with | .one (.ce c) => some [c] | .one (.ag l) => some l | _ => none
def op1s (r : Rd) : List Operand → Option (List T1)
  | [] => some []
  | x :: xs => (op1 r x).bind fun c => (op1s r xs).bind fun cs => some (c :: cs)
def isAggD : TypeDesc → Bool
  | .struct _ | .array _ _ => true
  | _ => false
def eqC : C → C → Option B
  | .ex a, .ex b => some (B.eq' a b)
  | .bo a, .bo b => some (B.eqb' a b)
  | .so a, .so b => some (B.eqs' a b)
  | _, _ => none
def eqCs : List C → List C → Option B
  | [], [] => some (.co true)
  | a :: as, b :: bs => (eqC a b).bind fun x => (eqCs as bs).bind fun y => some (B.and' x y)
  | _, _ => none
def kindC : C → Option K2
  | .ex _ => some .i
  | .bo _ => some .b
  | .so _ => some .s
  | _ => none
def kindsC : List C → Option (List K2)
  | [] => some []
  | c :: cs => (kindC c).bind fun k => (kindsC cs).bind fun ks => some (k :: ks)
def binE (kn : B → Option Bool) (op : BinOp) (a b : E) : Eff := match op with
  | .add => .val (.one (.ce (.ex (E.add' a b))))
  | .sub => .val (.one (.ce (.ex (E.sub' a b))))
  | .mul => .val (.one (.ce (.ex (E.mul' a b))))
  | .and => .val (.one (.ce (.ex (E.and' a b))))
  | .or => .val (.one (.ce (.ex (E.or' a b))))
  | .xor => .val (.one (.ce (.ex (E.xor' a b))))
  | .eql => .val (.one (.ce (.bo (B.eq' a b))))
  | .neq => .val (.one (.ce (.bo (B.not' (B.eq' a b)))))
  | .lss => .val (.one (.ce (.bo (B.lt' a b))))
  | .leq => .val (.one (.ce (.bo (B.le' a b))))
  | .gtr => .val (.one (.ce (.bo (B.lt' b a))))
  | .geq => .val (.one (.ce (.bo (B.le' b a))))
  | .quo => match kn (B.eq' b (.nu 0)) with
    | some false => .val (.one (.ce (.ex (E.quo' a b))))
    | some true => .bad
    | none => .fork (B.eq' b (.nu 0))
  | .rem => match kn (B.eq' b (.nu 0)) with
    | some false => .val (.one (.ce (.ex (E.rem' a b))))
    | some true => .bad
    | none => .fork (B.eq' b (.nu 0))
  | .shr => match b with
    | .nu n => if 0 ≤ n ∧ n ≤ 64 then .val (.one (.ce (.ex (E.shr' a n.toNat)))) else .bad
    | _ => .bad
  | _ => .bad
def fillC (place : Nat → Option (Nat × Nat)) (cells : List C) : List (Nat × List C) → Option (List C)
  | [] => some cells
  | (i, v) :: rest => match place i with
    | none => none
    | some (off, size) => if v.length ≠ size ∨ off + v.length > cells.length then none else fillC place (cells.take off ++ v ++ cells.drop (off + v.length)) rest
def opls (r : Rd) : List (Nat × Operand) → Option (List (Nat × List C))
  | [] => some []
  | (i, x) :: xs => (opl r x).bind fun c => (opls r xs).bind fun cs => some ((i, c) :: cs)
def placesD (env : Env) : List Field → Option (List (Nat × Nat))
  | [] => some []
  | f :: fs => (env.tys.lookup f.type).bind fun d => (placesD env fs).bind fun l => some ((f.offset, d.sz) :: l)
/-- A shift to the right by a number that stands in the text. -/
def shrOf : BinOp → Operand → Option Nat
  | .shr, .const (.int _ n) => if 0 ≤ n ∧ n ≤ 64 then some n.toNat else none
  | _, _ => none
/-! plain cells -/
inductive PR where
  | ok (l : List PC) | fix (g : Nat) | bad
def C.pc (hp : Nat → Option HC) : K4 → C → PR
  | .i, .ex e => .ok [.ex e]
  | .b, .bo e => .ok [.bo e]
  | .s, .so e => .ok [.so e]
  | .o, .op k => .ok [.op k]
  | .o, .kv v => .ok [.kv v]
  | .l _ sz, .hd g => match hp g with
    | some (.per k _ sz') => if sz' = sz then .ok [.li k] else .bad
    | some (.own _ _ _) => .fix g
    | _ => .bad
  | .l _ sz, .kv (.slice none 0 0) => .ok [.nl sz]
  | _, _ => .bad
def pcsOf (hp : Nat → Option HC) : List K4 → List C → PR
  | [], [] => .ok []
  | k :: ks, c :: cs => match c.pc hp k with
    | .ok l => match pcsOf hp ks cs with
      | .ok l' => .ok (l ++ l')
      | x => x
    | x => x
  | _, _ => .bad
def T1.cells : T1 → List C
  | .ce c => [c]
  | .ag l => l
/-- Arguments as plain cells, by their shapes. -/
def T1.fits : S1 → T1 → Bool
  | .one _, .ce _ => true
  | .agg l, .ag cs => decide (cs.length = l.length)
  | _, _ => false
def argsOf (hp : Nat → Option HC) : List S1 → List T1 → PR
  | [], [] => .ok []
  | s :: ss, t :: ts => if T1.fits s t = true then (match pcsOf hp s.ks t.cells with
    | .ok l => match argsOf hp ss ts with
      | .ok l' => .ok (l ++ l')
      | x => x
    | x => x) else .bad
  | _, _ => .bad
def chunks (sz : Nat) : Nat → List C → List (List C)
  | 0, _ => []
  | n + 1, l => l.take sz :: chunks sz n (l.drop sz)
inductive SR where
  | ok (l : LE) | fix (g : Nat) | bad
def rowsOf (hp : Nat → Option HC) (ks : List K4) : List (List C) → SR
  | [] => .ok []
  | r :: rs => match pcsOf hp ks r with
    | .ok l => match rowsOf hp ks rs with
      | .ok l' => .ok (.row l :: l')
      | x => x
    | .fix g => .fix g
    | .bad => .bad
/-- The length of rows: of which letters, and how many more. -/
def LE.vars : LE → List Nat
  | [] => []
  | .va k :: l => k :: LE.vars l
  | .row _ :: l => LE.vars l
def LE.more : LE → Nat
  | [] => 0
  | .va _ :: l => LE.more l
  | .row _ :: l => LE.more l + 1
def LE.len (l : LE) : E := E.lens' l.vars l.more
def HC.len : HC → Option E
  | .own L _ _ => some L.len
  | .per k _ _ => some (.lens [k] 0)
  | _ => none
def lkGet (k : Nat) (i : E) : List (Nat × E × Nat × List K4) → Option (Nat × List K4)
  | [] => none
  | (k', i', x) :: l => if k' = k ∧ i' = i then some x else lkGet k i l
/-! words that are the same -/
def kvSame : Value → Value → Bool
  | .string a, .string b => decide (a = b)
  | .slice none a b, .slice none c d => decide (a = c ∧ b = d)
  | .pointer none, .pointer none => true
  | _, _ => false
theorem kvSame_eq {a b : Value} (h : kvSame a b = true) : a = b := by
  unfold kvSame at h
  split at h <;> simp_all
def PC.same : PC → PC → Bool
  | .ex a, .ex b => decide (a = b)
  | .bo a, .bo b => decide (a = b)
  | .so a, .so b => decide (a = b)
  | .op a, .op b => decide (a = b)
  | .kv a, .kv b => kvSame a b
  | .li a, .li b => decide (a = b)
  | .nl a, .nl b => decide (a = b)
  | _, _ => false
def pcsSame : List PC → List PC → Bool
  | [], [] => true
  | a :: as, b :: bs => a.same b && pcsSame as bs
  | _, _ => false
theorem PC.same_eq {a b : PC} (h : a.same b = true) : a = b := by
  unfold PC.same at h
  split at h <;> first | (simp_all; done) | (rw [kvSame_eq h])
theorem pcsSame_eq : ∀ {a b : List PC}, pcsSame a b = true → a = b
  | [], [], _ => rfl
  | a :: as, b :: bs, h => by
    simp only [pcsSame, Bool.and_eq_true] at h
    rw [PC.same_eq h.1, pcsSame_eq h.2]
  | [], _ :: _, h => by simp [pcsSame] at h
  | _ :: _, [], h => by simp [pcsSame] at h
def lkCall (f : Nat) (pcs : List PC) : List (Nat × List PC × Nat) → Option Nat
  | [] => none
  | (g, as, k) :: l => if g = f ∧ pcsSame as pcs = true then some k else lkCall f pcs l
/-- How many elements of so many bytes a slice takes at most. -/
def roomOf (bs : Nat) : Nat := if bs = 0 then 0 else min maxLen (140737488355328 / bs)
/-- An appended slice. -/
def appE (r : Rd) (L : LE) (et sz bs : Nat) (og : Option Nat) : Eff :=
  match B.le' L.len (.nu (roomOf bs : Nat)) with
  | b => match r.kn b with
    | some true => .ok (.one (.ce (.hd r.nb))) ((r.nb, some (.own L et sz)) :: match og with | some g => [(g, none)] | none => [])
    | some false => .bad
    | none => .fork b
def chkB (kn : B → Option Bool) : List B → Option (Option B)
  | [] => some none
  | c :: cs => match kn c with
    | some true => chkB kn cs
    | some false => none
    | none => some (some c)
def optE (r : Rd) (d : E) : Option Operand → Option E
  | none => some d
  | some y => match opc r y with
    | some (.ex e) => some e
    | _ => none
def subApp : List PD → Option (List PD) := fun ps => match ps with
  | [.lst sz rows, .int lo, .int hi] => if 0 ≤ lo ∧ lo ≤ hi ∧ hi ≤ rows.length then some [.lst sz ((rows.take hi.toNat).drop lo.toNat)] else none
  | _ => none
def unfl (sz : Nat) : Nat → List PD → List (List PD)
  | 0, _ => []
  | n + 1, l => l.take sz :: unfl sz n (l.drop sz)
def mkApp (sz : Nat) : List PD → Option (List PD) := fun ps => if sz = 0 then none else some [.lst sz (unfl sz (ps.length / sz) ps)]
/-- The executor's own functions, for what is sliced and what is built where the order is drawn. -/
def drApp (k : Nat) : List PD → Option (List PD) := if k < 1000000 then subApp else mkApp ((k - 1000000) % 64)
def flatL : LE → Option (List PC)
  | [] => some []
  | .row l :: L => match flatL L with
    | some l' => some (l ++ l')
    | none => none
  | .va _ :: _ => none
def mkN (et sz : Nat) : Nat := 3000000 + (1000000 + (64 * et + sz))
/-- A slice that is built where the order is drawn: told as a call, too. -/
def mkE (r : Rd) (et sz : Nat) (pcs : List PC) : Eff :=
  if sz < 64 then match lkCall (mkN et sz) pcs r.cm with
    | some k0 => .ok (.one (.ce (.hd r.nb))) [(r.nb, some (.per k0 et sz))]
    | none => .ask (mkN et sz) pcs
  else .bad
/-- A slicing, where the order is drawn: told as a call of a function of the executor's own (3000000 + the element's type). -/
def subE (r : Rd) (g k et sz : Nat) (lo hi : E) : Eff :=
  if 1000000 ≤ et then .bad else match chkB r.kn [B.le' (.nu 0) lo, B.le' lo hi, B.le' hi (.lens [k] 0)] with
  | some none => match lkCall (3000000 + et) [.li k, .ex lo, .ex hi] r.cm with
    | some k0 => .ok (.one (.ce (.hd r.nb))) [(r.nb, some (.per k0 et sz))]
    | none => .ask (3000000 + et) [.li k, .ex lo, .ex hi]
  | some (some c) => .fork c
  | none => .bad
def step (env : Env) (r : Rd) (o : Op) : Eff := match o with
  | .move x => opm r x
  | .assign x => opm r x
  | .pick c x y => match opc r c with
    | some (.bo b) => match r.kn b with
      | some true => opm r x
      | some false => opm r y
      | none => .fork b
    | _ => .bad
  | .alloc t => match env.tys.lookup t with
    | some d => match liftCs d.zv.cells.toList with
      | some cs => .ok (.one (.ce (.pt r.nb 0))) [(r.nb, some (.blk cs t))]
      | none => .bad
    | none => .bad
  | .box t x => match opl r x with
    | some cs => .ok (.one (.ce (.pt r.nb 0))) [(r.nb, some (.blk cs t))]
    | none => .bad
  | .build t parts => match env.tys.lookup t with
    | some d => match liftCs d.zv.cells.toList, opls r parts.toList with
      | some zs, some ps => match d.desc with
        | .struct fs => match placesD env fs.toList with
          | some pl => match fillC (pl[·]?) zs ps with
            | some cs => .val (.one (.ag cs))
            | none => .bad
          | none => .bad
        | .array _ e => match env.tys.lookup e with
          | some de => match fillC (fun i => some (i * de.sz, de.sz)) zs ps with
            | some cs => .val (.one (.ag cs))
            | none => .bad
          | none => .bad
        | _ => .bad
      | _, _ => .bad
    | none => .bad
  | .load t x => match opc r x, env.tys.lookup t with
    | some (.pt g off), some d => match r.hp g with
      | some (.blk cs _) => if isAggD d.desc then (if off + d.sz ≤ cs.length then .val (.one (.ag ((cs.drop off).take d.sz))) else .bad)
        else match cs[off]? with
          | some c => .val (.one (.ce c))
          | none => .bad
      | _ => .bad
    | some (.ep g i sz off), some d => match r.hp g with
      | some (.per k et sz') => if sz' = sz ∧ off + d.sz ≤ sz ∧ sz ≤ 64 then (match lkGet k i r.gm with
        | some (k0, ks) => if ks.length = sz then (if isAggD d.desc then .ok (.one (.ag (((kcells k0 r.nb ks).drop off).take d.sz))) (knews k0 r.nb ks)
          else match (kcells k0 r.nb ks)[off]? with
            | some c => if d.sz = 1 then .ok (.one (.ce c)) (knews k0 r.nb ks) else .bad
            | none => .bad) else .bad
        | none => match env.kds.lookup et with
          | some ks => .getr k i ks
          | none => .bad) else .bad
      | some (.own [.va k] et sz') => if sz' = sz ∧ off + d.sz ≤ sz ∧ sz ≤ 64 then (match lkGet k i r.gm with
        | some (k0, ks) => if ks.length = sz then (if isAggD d.desc then .ok (.one (.ag (((kcells k0 r.nb ks).drop off).take d.sz))) (knews k0 r.nb ks)
          else match (kcells k0 r.nb ks)[off]? with
            | some c => if d.sz = 1 then .ok (.one (.ce c)) (knews k0 r.nb ks) else .bad
            | none => .bad) else .bad
        | none => match env.kds.lookup et with
          | some ks => .getr k i ks
          | none => .bad) else .bad
      | some (.own _ _ _) => .fix g
      | _ => .bad
    | _, _ => .bad
  | .slice t x lo hi none => match opc r x, env.tys.lookup t with
    | some (.hd g), some d => match d.desc with
      | .slice e => match env.tys.lookup e, r.hp g with
        | some de, some (.per k et sz) => if de.sz = sz ∧ sz ≠ 0 then (match optE r (.nu 0) lo, optE r (.lens [k] 0) hi with
          | some l, some h => subE r g k et sz l h
          | _, _ => .bad) else .bad
        | some _, some (.own _ _ _) => .fix g
        | _, _ => .bad
      | _ => .bad
    | _, _ => .bad
  | .store t x y => match opc r x, opl r y, env.tys.lookup t with
    | some (.pt g off), some vs, some d => match r.hp g with
      | some (.blk cs u) => if vs.length = d.sz ∧ off + vs.length ≤ cs.length then .ok (.tup []) [(g, some (.blk (cs.take off ++ vs ++ cs.drop (off + vs.length)) u))] else .bad
      | _ => .bad
    | _, _, _ => .bad
  | .nilCheck x => match opc r x with
    | some (.pt g off) => .val (.one (.ce (.pt g off)))
    | some (.ep g i sz off) => .val (.one (.ce (.ep g i sz off)))
    | _ => .bad
  | .binOp op t x y _ => match shrOf op y, opc r x with
   | some n, some (.ex a) => .val (.one (.ce (.ex (E.shr' a n))))
   | _, _ => match op1 r x, op1 r y with
    | some (.ce (.ex a)), some (.ce (.ex b)) => binE r.kn op a b
    | some (.ce (.bo a)), some (.ce (.bo b)) => match op, env.tys.lookup t with
      | .eql, some d => match d.desc with
        | .bool => .val (.one (.ce (.bo (B.eqb' a b))))
        | _ => .bad
      | .neq, some d => match d.desc with
        | .bool => .val (.one (.ce (.bo (B.not' (B.eqb' a b)))))
        | _ => .bad
      | _, _ => .bad
    | some (.ce (.so a)), some (.ce (.so b)) => match op with
      | .eql => .val (.one (.ce (.bo (B.eqs' a b))))
      | .neq => .val (.one (.ce (.bo (B.not' (B.eqs' a b)))))
      | _ => .bad
    | some (.ag xs), some (.ag ys) => match env.eqs.lookup t, kindsC xs, kindsC ys, eqCs xs ys with
      | some ks, some k1, some k2, some q => if k1 = ks ∧ k2 = ks then (match op with
        | .eql => .val (.one (.ce (.bo q)))
        | .neq => .val (.one (.ce (.bo (B.not' q))))
        | _ => .bad) else .bad
      | _, _, _, _ => .bad
    | _, _ => .bad
  | .unOp op _ x => match op, opc r x with
    | .neg, some (.ex a) => .val (.one (.ce (.ex (E.sub' (.nu 0) a))))
    | .not, some (.bo b) => .val (.one (.ce (.bo (B.not' b))))
    | _, _ => .bad
  | .fieldAddr t x j => match opc r x, env.tys.lookup t with
    | some (.pt g off), some d => match d.desc with
      | .struct fs => match fs[j]? with
        | some f => match env.tys.lookup f.type with
          | some df => if df.sz = 0 then .bad else .val (.one (.ce (.pt g (off + f.offset))))
          | none => .bad
        | none => .bad
      | _ => .bad
    | some (.ep g i sz off), some d => match d.desc with
      | .struct fs => match fs[j]? with
        | some f => match env.tys.lookup f.type with
          | some df => if df.sz = 0 then .bad else .val (.one (.ce (.ep g i sz (off + f.offset))))
          | none => .bad
        | none => .bad
      | _ => .bad
    | _, _ => .bad
  | .field t x j => match op1 r x, env.tys.lookup t with
    | some (.ag cs), some d => match d.desc with
      | .struct fs => match fs[j]? with
        | some f => match env.tys.lookup f.type with
          | some df => if isAggD df.desc then .val (.one (.ag ((cs.drop f.offset).take df.sz))) else match cs[f.offset]? with
            | some c => .val (.one (.ce c))
            | none => .bad
          | none => .bad
        | none => .bad
      | _ => .bad
    | _, _ => .bad
  | .index t x ix => match op1 r x, opc r ix, env.tys.lookup t with
    | some (.ag cs), some (.ex (.nu i)), some d => match d.desc with
      | .array len e => match env.tys.lookup e with
        | some de => if 0 ≤ i ∧ i < len then (if isAggD de.desc then .val (.one (.ag ((cs.drop (i.toNat * de.sz)).take de.sz))) else match cs[i.toNat * de.sz]? with
            | some c => .val (.one (.ce c))
            | none => .bad) else .bad
        | none => .bad
      | _ => .bad
    | _, _, _ => .bad
  | .indexAddr t x ix => match opc r x, opc r ix, env.tys.lookup t with
    | some (.pt g off), some (.ex (.nu i)), some d => match d.desc with
      | .array len e => match env.tys.lookup e with
        | some de => if 0 ≤ i ∧ i < len then .val (.one (.ce (.pt g (off + i.toNat * de.sz)))) else .bad
        | none => .bad
      | _ => .bad
    | some (.hd g), some (.ex i), some d => match d.desc with
      | .slice e => match env.tys.lookup e, (r.hp g).bind HC.len with
        | some de, some n => match r.kn (B.le' (.nu 0) i) with
          | some true => match r.kn (B.lt' i n) with
            | some true => .val (.one (.ce (.ep g i de.sz 0)))
            | some false => .bad
            | none => .fork (B.lt' i n)
          | some false => .bad
          | none => .fork (B.le' (.nu 0) i)
        | _, _ => .bad
      | _ => .bad
    | _, _, _ => .bad
  | .extract x i => match opv r x with
    | .tup l => match l[i]? with
      | some t => .val (.one t)
      | none => .bad
    | _ => .bad
  | .buildSlice t len parts => match env.tys.lookup t with
    | some d => match d.desc with
      | .slice e => match env.tys.lookup e, opls r parts.toList, env.kds.lookup e with
        | some de, some ps, some ks => match liftCs de.zv.cells.toList with
          | some zs => if len = 0 ∨ de.sz = 0 ∨ zs.length ≠ de.sz ∨ len * de.sz > 16777216 ∨ ks.length ≠ de.sz then .bad
            else match fillC (fun i => some (i * de.sz, de.sz)) ((List.range (len * de.sz)).map fun i => zs.getD (i % zs.length) (.kv (.pointer none))) ps with
              | some cs => match rowsOf r.hp ks (chunks de.sz len cs) with
                | .ok L => (match r.dr, env.fs.lookup (mkN e de.sz), flatL L with
                  | true, some _, some pcs => mkE r e de.sz pcs
                  | _, _, _ => .ok (.one (.ce (.hd r.nb))) [(r.nb, some (.own L e de.sz))])
                | .fix g => .fix g
                | .bad => .bad
              | none => .bad
          | none => .bad
        | _, _, _ => .bad
      | _ => .bad
    | none => .bad
  | .call c => match c.callee with
    | .value (.func f) => match op1s r c.args.toList, env.fs.lookup f with
      | some as, some (ps, sh) => match argsOf r.hp ps as with
        | .ok pcs => match lkCall f pcs r.cm with
          | some k0 => if sh.ks.length ≤ 64 ∧ f < 3000000 then .call f pcs k0 sh else .bad
          | none => .ask f pcs
        | .fix g => .fix g
        | .bad => .bad
      | _, _ => .bad
    | .builtin .max => match op1s r c.args.toList with
      | some [.ce (.ex a), .ce (.ex b)] => .val (.one (.ce (.ex (E.mx' a b))))
      | _ => .bad
    | .builtin .min => match op1s r c.args.toList with
      | some [.ce (.ex a), .ce (.ex b)] => .val (.one (.ce (.ex (E.mn' a b))))
      | _ => .bad
    | .builtin .len => match op1s r c.args.toList, c.argTypes.toList with
      | some [.ce x], [t] => match env.tys.lookup t with
        | some d => match d.desc, x with
          | .slice _, .hd g => match (r.hp g).bind HC.len with
            | some e => .val (.one (.ce (.ex e)))
            | none => .bad
          | .slice _, .kv (.slice none n _) => .val (.one (.ce (.ex (.nu (n : Int)))))
          | .string, .so (.va k) => .val (.one (.ce (.ex (.slen k))))
          | .string, .so (.co s) => .val (.one (.ce (.ex (.nu (s.size : Int)))))
          | _, _ => .bad
        | none => .bad
      | _, _ => .bad
    | .builtin .append => match op1s r c.args.toList, c.argTypes.toList with
      | some [.ce s, .ce (.hd gx)], [t, t'] => match env.tys.lookup t with
        | some d => match d.desc with
          | .slice e => match env.tys.lookup e with
            | some de => if t = t' ∧ de.sz ≠ 0 ∧ de.bs ≠ 0 ∧ de.zv.cells.size = de.sz then (match s, r.hp gx with
              | .kv (.slice none 0 0), some (.own X ex sx) => if ex = e ∧ sx = de.sz then appE r X e de.sz de.bs none else .bad
              | .kv (.slice none 0 0), some (.per k _ sx) => if sx = de.sz then appE r [.va k] e de.sz de.bs none else .bad
              | .hd g, some (.own X ex sx) => (match r.hp g with
                | some (.own L el sl) => if ex = e ∧ sx = de.sz ∧ el = e ∧ sl = de.sz ∧ g ≠ gx then appE r (L ++ X) e de.sz de.bs (some g) else .bad
                | _ => .bad)
              | .hd g, some (.per k _ sx) => (match r.hp g with
                | some (.own L el sl) => if sx = de.sz ∧ el = e ∧ sl = de.sz then appE r (L ++ [.va k]) e de.sz de.bs (some g) else .bad
                | _ => .bad)
              | _, _ => .bad) else .bad
            | none => .bad
          | _ => .bad
        | none => .bad
      | _, _ => .bad
    | _ => .bad
  | _ => .bad
/-! ### 4. Lists of cells -/
section
variable {m : Bm} {ρ : List PD}
theorem C.one {c : C} {v : Value} (h : c.ev m ρ = some v) : v.oneCell' = true := by
  cases c with
  | ex x => simp only [C.ev, Option.map_eq_some_iff] at h; obtain ⟨_, _, rfl⟩ := h; rfl
  | bo x => simp only [C.ev, Option.map_eq_some_iff] at h; obtain ⟨_, _, rfl⟩ := h; rfl
  | so x => simp only [C.ev, Option.map_eq_some_iff] at h; obtain ⟨_, _, rfl⟩ := h; rfl
  | op k =>
    simp only [C.ev] at h
    split at h
    · split at h
      · rename_i h1; cases h; exact h1
      · cases h
    · cases h
  | kv u =>
    simp only [C.ev] at h
    split at h
    · rename_i h1; cases h; exact h1
    · cases h
  | pt g off => simp only [C.ev] at h; split at h <;> cases h; rfl
  | hd g => simp only [C.ev] at h; split at h <;> cases h; rfl
  | ep g i sz off => simp only [C.ev, epV] at h; split at h <;> cases h; rfl
theorem cells_one {v : Value} (h : v.oneCell' = true) : v.cells = #[v] := by cases v <;> first | rfl | (simp [Value.oneCell'] at h)
theorem evs_one : ∀ {l : List C} {vs : List Value}, evs m ρ l = some vs → ∀ v ∈ vs, v.oneCell' = true
  | [], vs, h => by simp only [evs, Option.some.injEq] at h; subst h; simp
  | c :: cs, vs, h => by
    simp only [evs, Option.bind_eq_some_iff, Option.some.injEq] at h
    obtain ⟨v, hv, us, hus, rfl⟩ := h
    intro u hu
    rcases List.mem_cons.1 hu with rfl | hu
    · exact C.one hv
    · exact evs_one hus u hu
theorem evs_length : ∀ {l : List C} {vs : List Value}, evs m ρ l = some vs → vs.length = l.length
  | [], vs, h => by simp only [evs, Option.some.injEq] at h; subst h; rfl
  | c :: cs, vs, h => by
    simp only [evs, Option.bind_eq_some_iff, Option.some.injEq] at h
    obtain ⟨v, hv, us, hus, rfl⟩ := h
    simp [evs_length hus]
theorem evs_append : ∀ {l l' : List C} {vs vs' : List Value}, evs m ρ l = some vs → evs m ρ l' = some vs' → evs m ρ (l ++ l') = some (vs ++ vs')
  | [], l', vs, vs', h, h' => by simp only [evs, Option.some.injEq] at h; subst h; exact h'
  | c :: cs, l', vs, vs', h, h' => by
    simp only [evs, Option.bind_eq_some_iff, Option.some.injEq] at h
    obtain ⟨v, hv, us, hus, rfl⟩ := h
    simp only [List.cons_append, evs, hv, Option.bind_some, evs_append hus h']
theorem evs_take : ∀ (n : Nat) {l : List C} {vs : List Value}, evs m ρ l = some vs → evs m ρ (l.take n) = some (vs.take n)
  | 0, l, vs, h => by simp [evs]
  | n + 1, [], vs, h => by simp only [evs, Option.some.injEq] at h; subst h; rfl
  | n + 1, c :: cs, vs, h => by
    simp only [evs, Option.bind_eq_some_iff, Option.some.injEq] at h
    obtain ⟨v, hv, us, hus, rfl⟩ := h
    simp only [List.take_succ_cons, evs, hv, Option.bind_some, evs_take n hus]
theorem evs_drop : ∀ (n : Nat) {l : List C} {vs : List Value}, evs m ρ l = some vs → evs m ρ (l.drop n) = some (vs.drop n)
  | 0, l, vs, h => by simpa using h
  | n + 1, [], vs, h => by simp only [evs, Option.some.injEq] at h; subst h; rfl
  | n + 1, c :: cs, vs, h => by
    simp only [evs, Option.bind_eq_some_iff, Option.some.injEq] at h
    obtain ⟨v, hv, us, hus, rfl⟩ := h
    simpa using evs_drop n hus
theorem evs_get : ∀ {l : List C} {vs : List Value} {i : Nat} {c : C}, evs m ρ l = some vs → l[i]? = some c → ∃ v, vs[i]? = some v ∧ c.ev m ρ = some v
  | [], vs, i, c, h, hi => by simp at hi
  | d :: cs, vs, i, c, h, hi => by
    simp only [evs, Option.bind_eq_some_iff, Option.some.injEq] at h
    obtain ⟨v, hv, us, hus, rfl⟩ := h
    cases i with
    | zero => simp at hi; subst hi; exact ⟨v, rfl, hv⟩
    | succ i => simpa using evs_get hus (by simpa using hi)
theorem t1s_get : ∀ {l : List T1} {vs : List Value} {i : Nat} {c : T1}, T1.evs m ρ l = some vs → l[i]? = some c → ∃ v, vs[i]? = some v ∧ c.ev m ρ = some v
  | [], vs, i, c, h, hi => by simp at hi
  | d :: cs, vs, i, c, h, hi => by
    simp only [T1.evs, Option.bind_eq_some_iff, Option.some.injEq] at h
    obtain ⟨v, hv, us, hus, rfl⟩ := h
    cases i with
    | zero => simp at hi; subst hi; exact ⟨v, rfl, hv⟩
    | succ i => simpa using t1s_get hus (by simpa using hi)
theorem liftC_ev {v : Value} {c : C} (h : liftC v = some c) : c.ev m ρ = some v := by
  unfold liftC at h
  split at h <;> first | (cases h; rfl) | (cases h)
theorem liftCs_ev : ∀ {vs : List Value} {cs : List C}, liftCs vs = some cs → evs m ρ cs = some vs
  | [], cs, h => by simp only [liftCs, Option.some.injEq] at h; subst h; rfl
  | v :: vs, cs, h => by
    simp only [liftCs, Option.bind_eq_some_iff, Option.some.injEq] at h
    obtain ⟨c, hc, ds, hds, rfl⟩ := h
    simp only [evs, liftC_ev hc, Option.bind_some, liftCs_ev hds]
theorem lift_ev {v : Value} {t : T1} (h : lift v = some t) : t.ev m ρ = some v := by
  unfold lift at h
  split at h
  · simp only [Option.map_eq_some_iff] at h
    obtain ⟨l, hl, rfl⟩ := h
    simp only [T1.ev, liftCs_ev hl, Option.map_some]
  · simp only [Option.map_eq_some_iff] at h
    obtain ⟨l, hl, rfl⟩ := h
    exact liftC_ev hl
end
/-! rows of data, rows of values -/
section
variable {w w' : World} {S S' : Nat → Prop}
def RepRow (w : World) (S : Nat → Prop) : List PD → List Value → Prop
  | [], [] => True
  | p :: ps, v :: vs => Rep w S p v ∧ RepRow w S ps vs
  | _, _ => False
theorem RepRow.length : ∀ {ps : List PD} {vs : List Value}, RepRow w S ps vs → vs.length = ps.length
  | [], [], _ => rfl
  | _ :: _, _ :: _, h => by simp [RepRow.length h.2]
  | [], _ :: _, h => h.elim
  | _ :: _, [], h => h.elim
theorem RepRow.get : ∀ {ps : List PD} {vs : List Value}, RepRow w S ps vs → ∀ {j : Nat} {p : PD} {v : Value}, ps[j]? = some p → vs[j]? = some v → Rep w S p v
  | p :: ps, v :: vs, h, 0, p', v', hp, hv => by simp at hp hv; subst hp hv; exact h.1
  | p :: ps, v :: vs, h, j + 1, p', v', hp, hv => RepRow.get h.2 (j := j) (by simpa using hp) (by simpa using hv)
  | [], [], h, j, _, _, hp, _ => by simp at hp
  | [], _ :: _, h, _, _, _, _, _ => h.elim
  | _ :: _, [], h, _, _, _, _, _ => h.elim
theorem RepRow.of_get : ∀ {ps : List PD} {vs : List Value}, vs.length = ps.length → (∀ (j : Nat) p v, ps[j]? = some p → vs[j]? = some v → Rep w S p v) → RepRow w S ps vs
  | [], [], _, _ => trivial
  | p :: ps, v :: vs, hl, h => ⟨h 0 p v rfl rfl, RepRow.of_get (by simpa using hl) fun j p' v' hp hv => h (j + 1) p' v' (by simpa using hp) (by simpa using hv)⟩
  | [], _ :: _, hl, _ => by simp at hl
  | _ :: _, [], hl, _ => by simp at hl
theorem RepRow.append : ∀ {ps ps' : List PD} {vs vs' : List Value}, RepRow w S ps vs → RepRow w S ps' vs' → RepRow w S (ps ++ ps') (vs ++ vs')
  | [], ps', [], vs', _, h => h
  | p :: ps, ps', v :: vs, vs', h, h' => ⟨h.1, RepRow.append h.2 h'⟩
  | [], _, _ :: _, _, h, _ => h.elim
  | _ :: _, _, [], _, h, _ => h.elim
theorem RepRow.split : ∀ {ps ps' : List PD} {vs : List Value}, RepRow w S (ps ++ ps') vs → RepRow w S ps (vs.take ps.length) ∧ RepRow w S ps' (vs.drop ps.length)
  | [], ps', vs, h => ⟨by simp [RepRow], by simpa using h⟩
  | p :: ps, ps', v :: vs, h => by
    have := RepRow.split (ps := ps) h.2
    exact ⟨by simpa using ⟨h.1, this.1⟩, by simpa using this.2⟩
  | p :: ps, ps', [], h => h.elim
theorem RepRow.mono (hS : ∀ b, S b → S' b) (hw : ∀ b, S b → w'.heap[b]? = w.heap[b]?) : ∀ {ps : List PD} {vs : List Value}, RepRow w S ps vs → RepRow w' S' ps vs
  | [], [], _ => trivial
  | _ :: _, _ :: _, h => ⟨h.1.mono hS hw, RepRow.mono hS hw h.2⟩
  | [], _ :: _, h => h.elim
  | _ :: _, [], h => h.elim
theorem RepRow.one : ∀ {ps : List PD} {vs : List Value}, RepRow w S ps vs → ∀ v ∈ vs, v.oneCell' = true
  | [], [], _, v, hv => by simp at hv
  | _ :: _, _ :: _, h, v, hv => by
    rcases List.mem_cons.1 hv with rfl | hv
    · exact h.1.one
    · exact RepRow.one h.2 v hv
  | [], _ :: _, h, _, _ => h.elim
  | _ :: _, [], h, _, _ => h.elim
def RepRows (w : World) (S : Nat → Prop) (sz : Nat) : List (List PD) → List (List Value) → Prop
  | [], [] => True
  | p :: ps, v :: vs => (p.length = sz ∧ RepRow w S p v) ∧ RepRows w S sz ps vs
  | _, _ => False
theorem RepRows.mono (hS : ∀ b, S b → S' b) (hw : ∀ b, S b → w'.heap[b]? = w.heap[b]?) {sz : Nat} : ∀ {ps : List (List PD)} {vs : List (List Value)}, RepRows w S sz ps vs → RepRows w' S' sz ps vs
  | [], [], _ => trivial
  | _ :: _, _ :: _, h => ⟨⟨h.1.1, h.1.2.mono hS hw⟩, RepRows.mono hS hw h.2⟩
  | [], _ :: _, h => h.elim
  | _ :: _, [], h => h.elim
theorem RepRows.length {sz : Nat} : ∀ {ps : List (List PD)} {vs : List (List Value)}, RepRows w S sz ps vs → vs.length = ps.length
  | [], [], _ => rfl
  | _ :: _, _ :: _, h => by simp [RepRows.length h.2]
  | [], _ :: _, h => h.elim
  | _ :: _, [], h => h.elim
theorem RepRows.append {sz : Nat} : ∀ {ps ps' : List (List PD)} {vs vs' : List (List Value)}, RepRows w S sz ps vs → RepRows w S sz ps' vs' → RepRows w S sz (ps ++ ps') (vs ++ vs')
  | [], ps', [], vs', _, h => h
  | p :: ps, ps', v :: vs, vs', h, h' => ⟨h.1, RepRows.append h.2 h'⟩
  | [], _, _ :: _, _, h, _ => h.elim
  | _ :: _, _, [], _, h, _ => h.elim
theorem RepRows.row {sz : Nat} : ∀ {ps : List (List PD)} {vs : List (List Value)}, RepRows w S sz ps vs → ∀ v ∈ vs, v.length = sz ∧ ∀ x ∈ v, x.oneCell' = true
  | [], [], _, v, hv => by simp at hv
  | _ :: _, _ :: _, h, v, hv => by
    rcases List.mem_cons.1 hv with rfl | hv
    · exact ⟨by rw [h.1.2.length, h.1.1], h.1.2.one⟩
    · exact RepRows.row h.2 v hv
  | [], _ :: _, h, _, _ => h.elim
  | _ :: _, [], h, _, _ => h.elim
theorem RepRows.get {sz : Nat} : ∀ {ps : List (List PD)} {vs : List (List Value)}, RepRows w S sz ps vs → ∀ {i : Nat} {p : List PD} {v : List Value}, ps[i]? = some p → vs[i]? = some v → p.length = sz ∧ RepRow w S p v
  | p :: ps, v :: vs, h, 0, p', v', hp, hv => by simp at hp hv; subst hp hv; exact h.1
  | p :: ps, v :: vs, h, j + 1, p', v', hp, hv => RepRows.get h.2 (i := j) (by simpa using hp) (by simpa using hv)
  | [], [], h, j, _, _, hp, _ => by simp at hp
  | [], _ :: _, h, _, _, _, _, _ => h.elim
  | _ :: _, [], h, _, _, _, _, _ => h.elim
theorem flatten_get {sz : Nat} : ∀ {vs : List (List Value)}, (∀ v ∈ vs, v.length = sz) → ∀ {i : Nat} {v : List Value} {j : Nat} {x : Value}, vs[i]? = some v → v[j]? = some x → vs.flatten[i * sz + j]? = some x
  | [], h, i, v, j, x, hi, hj => by simp at hi
  | u :: vs, h, 0, v, j, x, hi, hj => by
    simp at hi; subst hi
    simp only [List.flatten_cons, Nat.zero_mul, Nat.zero_add]
    rw [List.getElem?_append_left (List.getElem?_eq_some_iff.1 hj).1]
    exact hj
  | u :: vs, h, i + 1, v, j, x, hi, hj => by
    have hu : u.length = sz := h u (by simp)
    simp only [List.flatten_cons]
    rw [show (i + 1) * sz + j = u.length + (i * sz + j) by rw [hu, Nat.add_mul]; omega, List.getElem?_append_right (by omega)]
    rw [Nat.add_sub_cancel_left]
    exact flatten_get (fun v hv => h v (by simp [hv])) (by simpa using hi) hj
theorem flatten_length {sz : Nat} : ∀ {vs : List (List Value)}, (∀ v ∈ vs, v.length = sz) → vs.flatten.length = vs.length * sz
  | [], _ => by simp
  | u :: vs, h => by
    have := flatten_length (fun v hv => h v (by simp [hv]) : ∀ v ∈ vs, v.length = sz)
    simp only [List.flatten_cons, List.length_append, List.length_cons, this, h u (by simp), Nat.add_mul, Nat.one_mul]
    omega
theorem Rep.list {sz : Nat} {rows : List (List PD)} {a : Option Addr} {n c : Nat} (h : Rep w S (.lst sz rows) (.slice a n c)) :
    n = rows.length ∧ rows.length ≤ maxLen ∧ (a = none → rows = [] ∧ c = 0) ∧ (rows ≠ [] → ∀ ad, a = some ad → ad.spot = none) ∧ ∃ vals, RepRows w S sz rows vals ∧ (rows ≠ [] → ∃ b off, a = some ⟨b, off, none⟩ ∧ S b ∧ ∀ i j v x, vals[i]? = some v → v[j]? = some x → w.cell? ⟨b, off + i * sz + j, none⟩ = some x) := by
  cases h with
  | lst sz rows a c vals hlen hmax hmem hnil hspot hcap hrep =>
    refine ⟨rfl, hmax, hnil, hspot, (List.range rows.length).map fun i => (List.range sz).map (vals i), ?_, fun hne => ?_⟩
    · have key : ∀ (l : List (List PD)) (k : Nat), (∀ row ∈ l, row.length = sz) → (∀ (i j : Nat) row p, l[i]? = some row → row[j]? = some p → Rep w S p (vals (k + i) j)) →
          RepRows w S sz l ((List.range' k l.length).map fun i => (List.range sz).map (vals i)) := by
        intro l
        induction l with
        | nil => intro k _ _; trivial
        | cons r l ih =>
          intro k h1 h2
          simp only [List.length_cons, List.range'_succ, List.map_cons]
          refine ⟨⟨h1 r (by simp), RepRow.of_get (by simp [h1 r (by simp)]) fun j p v hp hv => ?_⟩, ih (k + 1) (fun row hr => h1 row (by simp [hr])) fun i j row p hi hj => ?_⟩
          · have hj : j < sz := by have := (List.getElem?_eq_some_iff.1 hp).1; rw [h1 r (by simp)] at this; exact this
            simp only [List.getElem?_map, List.getElem?_range hj, Option.map_some, Option.some.injEq] at hv
            subst hv
            simpa using h2 0 j r p rfl hp
          · have := h2 (i + 1) j row p (by simpa using hi) hj
            rwa [show k + 1 + i = k + (i + 1) by omega]
      have := key rows 0 hlen (fun i j row p hi hj => by rw [Nat.zero_add]; exact hrep i j row p hi hj)
      rwa [← List.range_eq_range'] at this
    · obtain ⟨b, off, h1, h2, h3⟩ := hmem hne
      refine ⟨b, off, h1, h2, fun i j v x hv hx => ?_⟩
      have hi : i < rows.length := by have := (List.getElem?_eq_some_iff.1 hv).1; simpa using this
      simp only [List.getElem?_map, List.getElem?_range hi, Option.map_some, Option.some.injEq] at hv
      subst hv
      have hj : j < sz := by have := (List.getElem?_eq_some_iff.1 hx).1; simpa using this
      simp only [List.getElem?_map, List.getElem?_range hj, Option.map_some, Option.some.injEq] at hx
      subst hx
      exact h3 i j hi hj
theorem Rep.cap {sz : Nat} {rows : List (List PD)} {a : Option Addr} {n c : Nat} (h : Rep w S (.lst sz rows) (.slice a n c)) : n ≤ c := by
  cases h with
  | lst sz rows a c vals hlen hmax hmem hnil hspot hcap hrep => exact hcap
/-- .. and back. -/
theorem Rep.of_list {sz : Nat} {rows : List (List PD)} {a : Option Addr} {c : Nat} (hcap : rows.length ≤ c) (hmax : rows.length ≤ maxLen) (hnil : a = none → rows = [] ∧ c = 0) (hspot : rows ≠ [] → ∀ ad, a = some ad → ad.spot = none) {vals : List (List Value)} (hr : RepRows w S sz rows vals)
    (hm : rows ≠ [] → ∃ b off, a = some ⟨b, off, none⟩ ∧ S b ∧ ∀ i j v x, vals[i]? = some v → v[j]? = some x → w.cell? ⟨b, off + i * sz + j, none⟩ = some x) : Rep w S (.lst sz rows) (.slice a rows.length c) := by
  have hlen : ∀ row ∈ rows, row.length = sz := by
    intro row hrow
    obtain ⟨i, hi⟩ := List.getElem?_of_mem hrow
    have h1 : i < vals.length := by rw [hr.length]; exact (List.getElem?_eq_some_iff.1 hi).1
    exact (hr.get hi (List.getElem?_eq_getElem h1)).1
  refine .lst sz rows a c (fun i j => ((vals[i]?).bind (·[j]?)).getD undef) hlen hmax (fun hne => ?_) hnil hspot hcap fun i j row p hi hj => ?_
  · obtain ⟨b, off, h1, h2, h3⟩ := hm hne
    refine ⟨b, off, h1, h2, fun i j hi hj => ?_⟩
    have h4 : i < vals.length := by rw [hr.length]; exact hi
    have h5 := (hr.row vals[i] (List.getElem_mem h4)).1
    have h6 : j < vals[i].length := by omega
    rw [h3 i j vals[i] vals[i][j] (List.getElem?_eq_getElem h4) (List.getElem?_eq_getElem h6)]
    simp [List.getElem?_eq_getElem h4, List.getElem?_eq_getElem h6]
  · have h4 : i < vals.length := by rw [hr.length]; exact (List.getElem?_eq_some_iff.1 hi).1
    obtain ⟨h5, h6⟩ := hr.get hi (List.getElem?_eq_getElem h4)
    have h7 : j < vals[i].length := by rw [h6.length]; exact (List.getElem?_eq_some_iff.1 hj).1
    have := h6.get hj (List.getElem?_eq_getElem h7)
    simpa [List.getElem?_eq_getElem h4, List.getElem?_eq_getElem h7] using this
end
/-! ### 5. What the machine does, lemma by lemma; what is held of the memory -/
section
variable {P : Program} {env : Env} {m : Bm} {ρ : List PD} {r : Rd} {a : Act} {w : World}
theorem run_typeInfo' {t : TypeId} {i : TypeInfo} (h : P.info? t = some i) (w : World) : (typeInfo t).run P w = .ok i w := by simp [typeInfo, h]
theorem run_sizeOf' {t : TypeId} {i : TypeInfo} (h : P.info? t = some i) (w : World) : (Go.sizeOf t).run P w = .ok i.size w := by simp [Go.sizeOf, Sem.run_bind, run_typeInfo' h]
theorem run_zero' {t : TypeId} {i : TypeInfo} {z : Value} (h : P.info? t = some i) (hz : i.zero = some z) (w : World) : (zeroValue t).run P w = .ok z w := by simp [zeroValue, Sem.run_bind, run_typeInfo' h, hz]
theorem run_isAgg' {t : TypeId} {d : TypeDesc} (h : P.underlying t = some d) (w : World) : (isAgg t).run P w = .ok (isAggD d) w := by
  unfold isAgg
  rw [Sem.run_bind, run_underlying h w]
  cases d <;> rfl
theorem add_zero' (b off n : Nat) : (⟨b, off, none⟩ : Addr).add n = ⟨b, off + n, none⟩ := by unfold Addr.add; split <;> simp_all
theorem run_load_one {t : TypeId} {d : TypeDesc} (h : P.underlying t = some d) (hd : isAggD d = false) {b off : Nat} {cs : Array Value} {ty : TypeId} {fr : Nat × Nat} {v : Value} (hb : w.heap[b]? = some (.cells cs ty fr)) (hv : cs[off]? = some v) :
    (Instr.loadAt t (.pointer (some ⟨b, off, none⟩))).run P w = .ok v w := by
  have hc : w.cell? ⟨b, off, none⟩ = some v := by rw [cell_of_row w b off cs ty fr hb, hv]
  simp [Instr.loadAt, Instr.sureAddr, loadVar, Sem.run_bind, run_isAgg' h, hd, hc]
theorem run_load_agg {t : TypeId} {d : TypeDesc} {i : TypeInfo} (h : P.underlying t = some d) (hi : P.info? t = some i) (hd : isAggD d = true) {b off : Nat} {cs : Array Value} {ty : TypeId} {fr : Nat × Nat} (hb : w.heap[b]? = some (.cells cs ty fr)) (hl : off + i.size ≤ cs.size) :
    (Instr.loadAt t (.pointer (some ⟨b, off, none⟩))).run P w = .ok (.agg ((cs.toList.drop off).take i.size).toArray) w := by
  have hlen : ((cs.toList.drop off).take i.size).length = i.size := by simp; omega
  have hL := run_loadCells_list (P := P) w ⟨b, off, none⟩ ((cs.toList.drop off).take i.size) (fun j v hv => by
    rw [add_zero', cell_of_row w b _ cs ty fr hb]
    have hj : j < i.size := by have := (List.getElem?_eq_some_iff.1 hv).1; omega
    rw [List.getElem?_take_of_lt hj, List.getElem?_drop] at hv
    simpa using hv)
  rw [hlen] at hL
  simp [Instr.loadAt, Instr.sureAddr, loadVar, Sem.run_bind, run_isAgg' h, hd, run_sizeOf' hi, hL]
theorem run_store_at {t : TypeId} {i : TypeInfo} (hi : P.info? t = some i) {b off : Nat} {cs : Array Value} {ty : TypeId} {v : Value} (hb : w.heap[b]? = some (.cells cs ty (0, 0))) (hs : v.cells.size = i.size) (hl : off + v.cells.size ≤ cs.size)
    (h1 : ∀ u ∈ v.cells.toList, u.oneCell' = true) : (Instr.storeAt t (.pointer (some ⟨b, off, none⟩)) v).run P w = .ok () (w.setRow b (cs.toList.take off ++ v.cells.toList ++ cs.toList.drop (off + v.cells.toList.length)).toArray) := by
  have hS := run_storeCells_at (P := P) b off ty v.cells.toList 0 cs w hb (by simpa using hl) h1
  simp only [Nat.add_zero] at hS
  simp [Instr.storeAt, Instr.sureAddr, storeVar, Sem.run_bind, run_sizeOf' hi, hs, hS]
theorem run_field_at {t : TypeId} {fs : Array Field} {f : Field} {j : Nat} {i : TypeInfo} (h : P.underlying t = some (.struct fs)) (hf : fs[j]? = some f) (hi : P.info? f.type = some i) (hz : i.size ≠ 0) (b off : Nat) :
    (Instr.fieldAt t (.pointer (some ⟨b, off, none⟩)) j).run P w = .ok (.pointer (some ⟨b, off + f.offset, none⟩)) w := by
  simp [Instr.fieldAt, Sem.run_bind, run_underlying h, hf, Instr.sureAddr, fieldPlace, run_sizeOf' hi, hz, add_zero']
theorem run_index_array {t e : TypeId} {len : Nat} {i : TypeInfo} (h : P.underlying t = some (.array len e)) (hi : P.info? e = some i) (b off : Nat) (k : Int) (hk : 0 ≤ k ∧ k < len) :
    (Instr.indexAt t (.pointer (some ⟨b, off, none⟩)) (.int .i64 k)).run P w = .ok (.pointer (some ⟨b, off + k.toNat * i.size, none⟩)) w := by
  simp [Instr.indexAt, Sem.run_bind, run_underlying h, asIntOf, Instr.sureAddr, hk, run_sizeOf' hi, add_zero']
theorem run_index_slice {t e : TypeId} {n c : Nat} {i : TypeInfo} (h : P.underlying t = some (.slice e)) (hi : P.info? e = some i) (b off : Nat) (k : Int) (hk : 0 ≤ k ∧ k < n) :
    (Instr.indexAt t (.slice (some ⟨b, off, none⟩) n c) (.int .i64 k)).run P w = .ok (.pointer (some ⟨b, off + k.toNat * i.size, none⟩)) w := by
  simp [Instr.indexAt, Sem.run_bind, run_underlying h, asIntOf, hk, run_sizeOf' hi, add_zero']
theorem run_part {t : TypeId} {d : TypeDesc} {i : TypeInfo} (h : P.underlying t = some d) (hi : P.info? t = some i) (cs : Array Value) (off : Nat) :
    (part t cs off).run P w = if isAggD d = true then .ok (.agg (cs.extract off (off + i.size))) w else match cs[off]? with | some v => .ok v w | none => .halt (.stuck "part: no such cell") w := by
  cases hd : isAggD d
  · simp [part, Sem.run_bind, run_isAgg' h, hd]
    cases cs[off]? <;> simp
  · simp [part, Sem.run_bind, run_isAgg' h, hd, run_sizeOf' hi]
/-- The parts laid into a row, cell by cell and as one. -/
theorem fill_one (v : Array Value) (off : Nat) (cells : Array Value) (hl : off + v.size ≤ cells.size) :
    v.zipIdx.foldl (fun cs (x : Value × Nat) => cs.setIfInBounds (off + x.2) x.1) cells = (cells.toList.take off ++ v.toList ++ cells.toList.drop (off + v.size)).toArray := by
  obtain ⟨l⟩ := v
  have key : ∀ (l : List Value) (k : Nat) (cells : Array Value), off + k + l.length ≤ cells.size →
      (l.zipIdx k).foldl (fun cs (x : Value × Nat) => cs.setIfInBounds (off + x.2) x.1) cells = (cells.toList.take (off + k) ++ l ++ cells.toList.drop (off + k + l.length)).toArray := by
    intro l
    induction l with
    | nil => intro k cells _; simp
    | cons v rest ih =>
      intro k cells h
      simp only [List.length_cons] at h
      simp only [List.zipIdx_cons, List.foldl_cons]
      rw [ih (k + 1) _ (by simp; omega)]
      have e := list_seg_step cells.toList (off + k) v rest (by simp; omega)
      rw [Array.toList_setIfInBounds, ← Nat.add_assoc]
      simpa [Nat.add_assoc] using congrArg List.toArray e
  have := key l 0 cells (by simpa using hl)
  simpa [← Array.foldl_toList, Array.toList_zipIdx] using this
theorem fill_ok {place : Nat → Option (Nat × Nat)} : ∀ {ps : List (Nat × List C)} {zs cs : List C} {vs : List Value} {xs : List (Nat × Value)}, evs m ρ zs = some vs →
    ps.length = xs.length → (∀ (j i : Nat) (ds : List C), ps[j]? = some (i, ds) → ∃ u, xs[j]? = some (i, u) ∧ evs m ρ ds = some u.cells.toList) → fillC place zs ps = some cs →
    ∃ us, evs m ρ cs = some us ∧ Instr.fill place vs.toArray xs = some us.toArray
  | [], zs, cs, vs, xs, hz, hl, hp, h => by
    simp only [fillC, Option.some.injEq] at h
    subst h
    obtain rfl : xs = [] := by cases xs; rfl; simp at hl
    exact ⟨vs, hz, rfl⟩
  | (i, ds) :: rest, zs, cs, vs, xs, hz, hl, hp, h => by
    obtain ⟨u, hu, hds⟩ := hp 0 i ds rfl
    cases xs with
    | nil => simp at hu
    | cons x xs =>
      simp only [List.getElem?_cons_zero, Option.some.injEq] at hu
      subst hu
      simp only [fillC] at h
      cases hpl : place i with
      | none => rw [hpl] at h; simp at h
      | some q =>
        obtain ⟨off, size⟩ := q
        rw [hpl] at h
        simp only at h
        split at h
        · cases h
        · rename_i hc
          have hlen : ds.length = u.cells.size := by have := evs_length hds; simp at this; exact this.symm
          have hzl := evs_length hz
          have hcc : ¬ (u.cells.size ≠ size ∨ off + u.cells.size > vs.toArray.size) := by simp; omega
          have hz' : evs m ρ (zs.take off ++ ds ++ zs.drop (off + ds.length)) = some (vs.take off ++ u.cells.toList ++ vs.drop (off + u.cells.size)) := by
            rw [← hlen]; exact evs_append (evs_append (evs_take off hz) hds) (evs_drop _ hz)
          obtain ⟨us, h1, h2⟩ := fill_ok hz' (by simpa using hl) (fun j k es hj => by have := hp (j + 1) k es (by simpa using hj); simpa using this) h
          refine ⟨us, h1, ?_⟩
          simp only [Instr.fill, hpl]
          rw [if_neg (by simpa using hcc), ← h2]
          congr 1
          have := fill_one u.cells off vs.toArray (by simp; omega)
          simpa using this
end
def blkOf : Option Mb → Option Nat
  | some (.bk b) => some b
  | some (.ow (some a) _ _) => some a.block
  | _ => none
abbrev HpF := Nat → Option HC
def Stab (S0 : Nat → Prop) (base : Nat) (hp : HpF) (m : Bm) (w : World) : Nat → Prop := fun b => (S0 b ∨ base ≤ b) ∧ b < w.heap.size ∧ ∀ g h, hp g = some h → h.wr = true → blkOf (m g) ≠ some b
def HOk (w : World) (S : Nat → Prop) (base : Nat) (m : Bm) (ρ : List PD) (g : Nat) : HC → Prop
  | .blk cs t => ∃ b vs, m g = some (.bk b) ∧ evs m ρ cs = some vs ∧ w.heap[b]? = some (.cells vs.toArray t (0, 0))
  | .own L et sz => ∃ a n c rows vals, m g = some (.ow a n c) ∧ LE.rows ρ L = some rows ∧ rows.length = n ∧ RepRows w S sz rows vals ∧ w.ownsRow base et sz (.slice a n c) n vals.flatten ∧ sz ≠ 0
  | .per k et sz => ∃ a n c rows, m g = some (.ow a n c) ∧ ρ[k]? = some (.lst sz rows) ∧ Rep w S (.lst sz rows) (.slice a n c)
structure HR (S0 : Nat → Prop) (base : Nat) (W0 : World) (hp : HpF) (m : Bm) (ρ : List PD) (w : World) : Prop where
  hps : ∀ g h, hp g = some h → HOk w (Stab S0 base hp m w) base m ρ g h
  low : ∀ g h b, hp g = some h → h.wr = true → blkOf (m g) = some b → base ≤ b ∧ b < w.heap.size
  inj : ∀ g g' h h' b, hp g = some h → hp g' = some h' → h.wr = true → h'.wr = true → blkOf (m g) = some b → blkOf (m g') = some b → g = g'
  bel : Below base W0 w
  le : base ≤ w.heap.size
  s0 : ∀ b, S0 b → b < base
def updA (hp : HpF) (upd : List (Nat × Option HC)) : HpF := fun g => match lk g upd with
  | some h => h
  | none => hp g
theorem ownsRow_same {w w' : World} {base : Nat} {e size n : Nat} {v : Value} {xs : List Value} (h : w.ownsRow base e size v n xs) (hb : ∀ k, v.ownBlock = some k → w'.heap[k]? = w.heap[k]?) : w'.ownsRow base e size v n xs := by
  refine ⟨h.1, ?_⟩
  rcases h.2 with hn | ⟨g, cap, cur, rfl, h1, h2, rest⟩
  · exact .inl hn
  · exact .inr ⟨g, cap, cur, rfl, h1, by rw [hb g rfl]; exact h2, rest⟩
section
variable {S0 : Nat → Prop} {base : Nat} {W0 w w' : World} {hp hp' : HpF} {m m' : Bm} {ρ ρ' : List PD}
theorem HOk.here {S : Nat → Prop} {g : Nat} {h : HC} (hk : HOk w S base m ρ g h) : ∃ x, m g = some x := by
  cases h with
  | blk cs t => obtain ⟨b, _, h1, _⟩ := hk; exact ⟨_, h1⟩
  | own L et sz => obtain ⟨a, n, c, _, _, h1, _⟩ := hk; exact ⟨_, h1⟩
  | per k et sz => obtain ⟨a, n, c, _, h1, _⟩ := hk; exact ⟨_, h1⟩
theorem HOk.mono {S S' : Nat → Prop} (hS : ∀ b, S b → S' b) (hw : ∀ b, S b → w'.heap[b]? = w.heap[b]?) (hm : Bm.le m m') (hp : Pre ρ ρ') {g : Nat} {h : HC} (hb : h.wr = true → ∀ b, blkOf (m g) = some b → w'.heap[b]? = w.heap[b]?)
    (hk : HOk w S base m ρ g h) : HOk w' S' base m' ρ' g h := by
  cases h with
  | blk cs t =>
    obtain ⟨b, vs, h1, h2, h3⟩ := hk
    exact ⟨b, vs, hm _ _ h1, evs_mono hm hp _ _ h2, by rw [hb rfl b (by rw [h1]; rfl)]; exact h3⟩
  | own L et sz =>
    obtain ⟨a, n, c, rows, vals, h1, h2, h3, h4, h5, h6⟩ := hk
    refine ⟨a, n, c, rows, vals, hm _ _ h1, LE.mono hp _ _ h2, h3, h4.mono hS hw, ownsRow_same h5 fun k hk => hb rfl k ?_, h6⟩
    rw [h1]
    cases a with
    | none => simp [Value.ownBlock] at hk
    | some ad => simpa [Value.ownBlock, blkOf] using hk
  | per k et sz =>
    obtain ⟨a, n, c, rows, h1, h2, h3⟩ := hk
    exact ⟨a, n, c, rows, hm _ _ h1, hp _ _ h2, h3.mono hS hw⟩
/-- THE LAW of change: one old block X of the call's own may be turned; N are the numbers that are told anew. -/
theorem HR.upd (h : HR S0 base W0 hp m ρ w) (hm : Bm.le m m') (hρ : Pre ρ ρ') (hbel : Below base w w') (X : Option Nat) (hX : ∀ b, X = some b → ∃ g c, hp g = some c ∧ c.wr = true ∧ blkOf (m g) = some b)
    (hw : ∀ b, b < w.heap.size → X ≠ some b → w'.heap[b]? = w.heap[b]?) (N : Nat → Prop)
    (hold : ∀ g c, hp' g = some c → ¬ N g → hp g = some c ∧ (c.wr = true → ∀ b, blkOf (m g) = some b → X ≠ some b))
    (hnb : ∀ g c b, N g → hp' g = some c → c.wr = true → blkOf (m' g) = some b → (w.heap.size ≤ b ∨ X = some b) ∧ b < w'.heap.size)
    (hni : ∀ g g' c c' b, N g → N g' → hp' g = some c → hp' g' = some c' → c.wr = true → c'.wr = true → blkOf (m' g) = some b → blkOf (m' g') = some b → g = g')
    (hnew : (∀ b, Stab S0 base hp m w b → Stab S0 base hp' m' w' b) → (∀ b, Stab S0 base hp m w b → w'.heap[b]? = w.heap[b]?) → ∀ g c, N g → hp' g = some c → HOk w' (Stab S0 base hp' m' w') base m' ρ' g c) : HR S0 base W0 hp' m' ρ' w' := by
  have hsame : ∀ g c, hp' g = some c → ¬ N g → m' g = m g := fun g c hc hn => by
    obtain ⟨x, hx⟩ := (h.hps g c (hold g c hc hn).1).here
    rw [hx, hm g x hx]
  have hXS : ∀ b, Stab S0 base hp m w b → X ≠ some b := fun b hb he => by
    obtain ⟨g, c, h1, h2, h3⟩ := hX b he
    exact hb.2.2 g c h1 h2 h3
  have hS : ∀ b, Stab S0 base hp m w b → Stab S0 base hp' m' w' b := fun b hb => by
    refine ⟨hb.1, Nat.lt_of_lt_of_le hb.2.1 hbel.size, fun g c hc hwr he => ?_⟩
    by_cases hn : N g
    · rcases (hnb g c b hn hc hwr he).1 with h1 | h1
      · have := hb.2.1; omega
      · exact hXS b hb h1
    · rw [hsame g c hc hn] at he
      exact hb.2.2 g c (hold g c hc hn).1 hwr he
  have hW : ∀ b, Stab S0 base hp m w b → w'.heap[b]? = w.heap[b]? := fun b hb => hw b hb.2.1 (hXS b hb)
  refine ⟨fun g c hc => ?_, fun g c b hc hwr hb => ?_, fun g g' c c' b hc hc' hwr hwr' hb hb' => ?_, h.bel.trans hbel, Nat.le_trans h.le hbel.size, h.s0⟩
  · by_cases hn : N g
    · exact hnew hS hW g c hn hc
    · obtain ⟨h1, h2⟩ := hold g c hc hn
      exact (h.hps g c h1).mono hS hW hm hρ fun hwr b hb => hw b (h.low g c b h1 hwr hb).2 (h2 hwr b hb)
  · by_cases hn : N g
    · obtain ⟨h1, h2⟩ := hnb g c b hn hc hwr hb
      refine ⟨?_, h2⟩
      rcases h1 with h1 | h1
      · have := h.le; omega
      · obtain ⟨g0, c0, e1, e2, e3⟩ := hX b h1
        exact (h.low g0 c0 b e1 e2 e3).1
    · rw [hsame g c hc hn] at hb
      obtain ⟨h1, _⟩ := hold g c hc hn
      have := h.low g c b h1 hwr hb
      exact ⟨this.1, Nat.lt_of_lt_of_le this.2 hbel.size⟩
  · by_cases hn : N g <;> by_cases hn' : N g'
    · exact hni g g' c c' b hn hn' hc hc' hwr hwr' hb hb'
    · rw [hsame g' c' hc' hn'] at hb'
      obtain ⟨h1, h2⟩ := hold g' c' hc' hn'
      rcases (hnb g c b hn hc hwr hb).1 with h3 | h3
      · have := (h.low g' c' b h1 hwr' hb').2; omega
      · exact absurd h3 (h2 hwr' b hb')
    · rw [hsame g c hc hn] at hb
      obtain ⟨h1, h2⟩ := hold g c hc hn
      rcases (hnb g' c' b hn' hc' hwr' hb').1 with h3 | h3
      · have := (h.low g c b h1 hwr hb).2; omega
      · exact absurd h3 (h2 hwr b hb)
    · rw [hsame g c hc hn] at hb
      rw [hsame g' c' hc' hn'] at hb'
      exact h.inj g g' c c' b (hold g c hc hn).1 (hold g' c' hc' hn').1 hwr hwr' hb hb'
theorem HR.weak (h : HR S0 base W0 hp m ρ w) (hρ : Pre ρ ρ') (hh : ∀ g c, hp' g = some c → hp g = some c) : HR S0 base W0 hp' m ρ' w :=
  h.upd (Bm.le_refl m) hρ (Below.refl _ _) none (by simp) (fun _ _ _ => rfl) (fun _ => False) (fun g c hc _ => ⟨hh g c hc, by simp⟩) (by simp) (by simp) (by simp)
theorem HR.world (h : HR S0 base W0 hp m ρ w) (hb : Below w.heap.size w w') : HR S0 base W0 hp m ρ w' :=
  h.upd (Bm.le_refl m) (Pre.refl ρ) (hb.mono h.le) none (by simp) (fun b hlt _ => hb.block b hlt) (fun _ => False) (fun g c hc _ => ⟨hc, by simp⟩) (by simp) (by simp) (by simp)
end
/-! ### 6. Operands, plain cells -/
def opnds : Op → List Operand
  | .move x | .assign x | .box _ x | .nilCheck x | .unOp _ _ x | .fieldAddr _ x _ | .field _ x _ | .extract x _ | .load _ x => [x]
  | .pick c x y => [c, x, y]
  | .build _ ps | .buildSlice _ _ ps => ps.toList.map (·.2)
  | .store _ x y | .binOp _ _ x y _ | .indexAddr _ x y | .index _ x y => [x, y]
  | .call c => c.args.toList
  | .slice _ x lo hi _ => x :: (lo.toList ++ hi.toList)
  | _ => []
def At (ρ : List PD) (k : Nat) (l : List PD) : Prop := ∀ (j : Nat) (s : PD), l[j]? = some s → ρ[k + j]? = some s
theorem At.tail {ρ : List PD} {k : Nat} {s : PD} {l : List PD} (h : At ρ k (s :: l)) : At ρ (k + 1) l := fun j t hj => by
  have := h (j + 1) t (by simpa using hj)
  rwa [show k + 1 + j = k + (j + 1) by omega]
theorem At.left {ρ : List PD} {k : Nat} {l l' : List PD} (h : At ρ k (l ++ l')) : At ρ k l := fun j t hj =>
  h j t (by rw [List.getElem?_append_left (List.getElem?_eq_some_iff.1 hj).1]; exact hj)
theorem At.right {ρ : List PD} {k : Nat} {l l' : List PD} (h : At ρ k (l ++ l')) : At ρ (k + l.length) l' := fun j t hj => by
  have := h (l.length + j) t (by rw [List.getElem?_append_right (by omega)]; simpa using hj)
  rwa [show k + l.length + j = k + (l.length + j) by omega]
theorem At.mono {ρ ρ' : List PD} (hp : Pre ρ ρ') {k : Nat} {l : List PD} (h : At ρ k l) : At ρ' k l := fun j s hj => hp _ _ (h j s hj)
section
variable {P : Program} {env : Env} {m : Bm} {ρ : List PD} {r : Rd} {a : Act} {w : World}
def OpOk (m : Bm) (ρ : List PD) (r : Rd) (a : Act) (x : Operand) : Prop := opv r x ≠ .und → (opv r x).ev m ρ = some (a.eval x)
theorem opOk_const (v : Value) : OpOk m ρ r a (.const v) := by
  intro h
  simp only [opv] at h ⊢
  cases hl : lift v with
  | none => rw [hl] at h; exact absurd rfl h
  | some t => exact lift_ev hl
theorem op1_ok {x : Operand} {t : T1} (hx : OpOk m ρ r a x) (h : op1 r x = some t) : t.ev m ρ = some (a.eval x) := by
  unfold op1 at h
  split at h
  · rename_i u hu; cases h; have := hx (by rw [hu]; simp); rwa [hu] at this
  · cases h
theorem opc_ok {x : Operand} {c : C} (hx : OpOk m ρ r a x) (h : opc r x = some c) : c.ev m ρ = some (a.eval x) := by
  unfold opc at h
  split at h
  · rename_i u hu; cases h; have := hx (by rw [hu]; simp); rwa [hu] at this
  · cases h
theorem opl_ok {x : Operand} {l : List C} (hx : OpOk m ρ r a x) (h : opl r x = some l) : evs m ρ l = some (a.eval x).cells.toList := by
  unfold opl at h
  split at h
  · rename_i u hu
    cases h
    have h1 := hx (by rw [hu]; simp)
    rw [hu] at h1
    have h2 : u.ev m ρ = some (a.eval x) := h1
    simp only [evs, h2, Option.bind_some, cells_one (C.one h2)]
  · rename_i u hu
    cases h
    have h1 := hx (by rw [hu]; simp)
    rw [hu] at h1
    simp only [SV.ev, T1.ev, Option.map_eq_some_iff] at h1
    obtain ⟨vs, hvs, he⟩ := h1
    rw [← he, hvs]
    rfl
  · cases h
theorem op1s_ok : ∀ {xs : List Operand} {l : List T1}, (∀ x ∈ xs, OpOk m ρ r a x) → op1s r xs = some l → T1.evs m ρ l = some (xs.map a.eval)
  | [], l, _, h => by simp only [op1s, Option.some.injEq] at h; subst h; rfl
  | x :: xs, l, hx, h => by
    simp only [op1s, Option.bind_eq_some_iff, Option.some.injEq] at h
    obtain ⟨c, hc, cs, hcs, rfl⟩ := h
    simp only [T1.evs, op1_ok (hx x (by simp)) hc, Option.bind_some, op1s_ok (fun y hy => hx y (by simp [hy])) hcs, List.map_cons]
theorem opls_ok : ∀ {xs : List (Nat × Operand)} {l : List (Nat × List C)}, (∀ x ∈ xs, OpOk m ρ r a x.2) → opls r xs = some l →
    l.length = xs.length ∧ ∀ (j : Nat) (i : Nat) (cs : List C), l[j]? = some (i, cs) → ∃ x, xs[j]? = some (i, x) ∧ evs m ρ cs = some (a.eval x).cells.toList
  | [], l, _, h => by simp only [opls, Option.some.injEq] at h; subst h; exact ⟨rfl, by simp⟩
  | (k, x) :: xs, l, hx, h => by
    simp only [opls, Option.bind_eq_some_iff, Option.some.injEq] at h
    obtain ⟨c, hc, cs, hcs, rfl⟩ := h
    obtain ⟨h1, h2⟩ := opls_ok (fun y hy => hx y (by simp [hy])) hcs
    refine ⟨by simp [h1], fun j i ds hj => ?_⟩
    cases j with
    | zero => simp at hj; obtain ⟨rfl, rfl⟩ := hj; exact ⟨x, rfl, opl_ok (hx (k, x) (by simp)) hc⟩
    | succ j => simpa using h2 j i ds (by simpa using hj)
theorem eqC_ev {x y : C} {q : B} {u v : Value} (h : eqC x y = some q) (hx : x.ev m ρ = some u) (hy : y.ev m ρ = some v) : q.ev ρ = some (valEq u v) := by
  unfold eqC at h
  split at h
  · cases h
    simp only [C.ev, Option.map_eq_some_iff] at hx hy
    obtain ⟨n, hn, rfl⟩ := hx
    obtain ⟨k, hk, rfl⟩ := hy
    exact B.eq'_ev hn hk
  · cases h
    simp only [C.ev, Option.map_eq_some_iff] at hx hy
    obtain ⟨n, hn, rfl⟩ := hx
    obtain ⟨k, hk, rfl⟩ := hy
    exact B.eqb'_ev hn hk
  · cases h
    simp only [C.ev, Option.map_eq_some_iff] at hx hy
    obtain ⟨n, hn, rfl⟩ := hx
    obtain ⟨k, hk, rfl⟩ := hy
    exact B.eqs'_ev hn hk
  · cases h
theorem eqCs_ev : ∀ {x y : List C} {q : B} {u v : List Value}, eqCs x y = some q → evs m ρ x = some u → evs m ρ y = some v → q.ev ρ = some (allEq u v)
  | [], [], q, u, v, h, hx, hy => by
    simp only [eqCs, evs, Option.some.injEq] at h hx hy
    subst h hx hy
    rfl
  | [], _ :: _, _, _, _, h, _, _ => by simp [eqCs] at h
  | _ :: _, [], _, _, _, h, _, _ => by simp [eqCs] at h
  | x :: xs, y :: ys, q, u, v, h, hx, hy => by
    simp only [eqCs, evs, Option.bind_eq_some_iff, Option.some.injEq] at h hx hy
    obtain ⟨b, hb, c, hc, rfl⟩ := h
    obtain ⟨x0, h1, xs0, h2, rfl⟩ := hx
    obtain ⟨y0, h3, ys0, h4, rfl⟩ := hy
    exact B.and'_ev (eqC_ev hb h1 h3) (eqCs_ev hc h2 h4)
theorem kindsC_of : ∀ {x : List C} {ks : List K2} {u : List Value}, kindsC x = some ks → evs m ρ x = some u → KsOf ks u
  | [], ks, u, h, hx => by
    simp only [kindsC, evs, Option.some.injEq] at h hx
    subst h hx
    trivial
  | x :: xs, ks, u, h, hx => by
    simp only [kindsC, evs, Option.bind_eq_some_iff, Option.some.injEq] at h hx
    obtain ⟨k, hk, l, hl, rfl⟩ := h
    obtain ⟨x0, h1, xs0, h2, rfl⟩ := hx
    refine ⟨?_, kindsC_of hl h2⟩
    unfold kindC at hk
    split at hk <;> first | (cases hk; simp only [C.ev, Option.map_eq_some_iff] at h1; obtain ⟨_, _, rfl⟩ := h1; trivial) | (cases hk)
theorem placesD_ok (hE : EnvOk P env) : ∀ {fs : List Field} {l : List (Nat × Nat)} (w : World), placesD env fs = some l → ((fs.mapM fun f => do pure (f.offset, ← Go.sizeOf f.type) : Sem (List (Nat × Nat)))).run P w = .ok l w
  | [], l, w, h => by simp only [placesD, Option.some.injEq] at h; subst h; simp
  | f :: fs, l, w, h => by
    simp only [placesD, Option.bind_eq_some_iff, Option.some.injEq] at h
    obtain ⟨d, hd, l', hl, rfl⟩ := h
    obtain ⟨_, i, hi, _, hs, _⟩ := hE.tys _ _ hd
    have ih := placesD_ok hE w hl
    simp only [List.mapM_cons, Sem.run_bind, run_sizeOf' hi, Result.andThen_ok, Sem.run_pure, ih, hs]
theorem mapM_toList {α β : Type} (f : α → Sem β) (xs : Array α) (w : World) {l : List β} (h : (xs.toList.mapM f).run P w = .ok l w) : (xs.mapM f).run P w = .ok l.toArray w := by
  rw [Array.mapM_eq_mapM_toList]
  simp [Sem.run_map, h]
theorem i64w (n : Int) : IntKind.i64.wrap n = wrap64 n := by rw [IntKind.wrap_i64, wrap64]

theorem evs_map {f : Nat → C} {g : Nat → Value} : ∀ (l : List Nat), (∀ i ∈ l, (f i).ev m ρ = some (g i)) → evs m ρ (l.map f) = some (l.map g)
  | [], _ => rfl
  | i :: l, h => by simp only [List.map_cons, evs, h i (by simp), Option.bind_some, evs_map l fun j hj => h j (by simp [hj])]
theorem two_ints {e1 e2 : E} {l : List Value} (h : T1.evs m ρ [.ce (.ex e1), .ce (.ex e2)] = some l) :
    ∃ v1 v2 n k, e1.ev ρ = some n ∧ e2.ev ρ = some k ∧ v1 = Value.int .i64 n ∧ v2 = Value.int .i64 k ∧ l = [v1, v2] := by
  simp only [T1.evs, T1.ev, C.ev] at h
  cases h1 : e1.ev ρ with
  | none => simp [h1] at h
  | some n => cases h2 : e2.ev ρ with
    | none => simp [h1, h2] at h
    | some k => simp [h1, h2] at h; exact ⟨_, _, n, k, rfl, rfl, rfl, rfl, h.symm⟩
theorem map_toList2 {xs : Array Operand} {l : List Value} (h : xs.toList.map a.eval = l) : xs.map a.eval = l.toArray := by
  apply Array.toList_inj.1; simpa using h
theorem run_guard_bool {op : BinOp} {t : TypeId} {o1 o2 : Operand} {n k : Bool} : (eqGuard op t o1 o2 (.bool n) (.bool k)).run P w = .ok () w := by unfold eqGuard; split <;> simp

end
/-! rows, as letters and numbers of slices -/
def hdOf : K4 → Value → Option Mb
  | .l _ _, .slice a n c => some (.ow a n c)
  | _, _ => none
def hdM (m : Bm) : Nat → List K4 → List Value → Bm
  | g0, k :: ks, v :: vs => fun g => if g = g0 then (hdOf k v).or (m g) else hdM m (g0 + 1) ks vs g
  | _, _, _ => m
section
variable {m : Bm} {ρ : List PD} {w : World} {S : Nat → Prop}
theorem hdM_lt : ∀ {ks : List K4} {vs : List Value} {g0 g : Nat}, g < g0 → hdM m g0 ks vs g = m g
  | [], vs, g0, g, h => by simp [hdM]
  | k :: ks, [], g0, g, h => by simp [hdM]
  | k :: ks, v :: vs, g0, g, h => by
    simp only [hdM]
    rw [if_neg (by omega)]
    exact hdM_lt (by omega)
theorem hdM_ge : ∀ {ks : List K4} {vs : List Value} {g0 g : Nat}, g0 + ks.length ≤ g → hdM m g0 ks vs g = m g
  | [], vs, g0, g, h => by simp [hdM]
  | k :: ks, [], g0, g, h => by simp [hdM]
  | k :: ks, v :: vs, g0, g, h => by
    simp only [List.length_cons] at h
    simp only [hdM]
    rw [if_neg (by omega)]
    exact hdM_ge (by omega)
theorem hdM_le {ks : List K4} {vs : List Value} {g0 : Nat} (h : ∀ g, g0 ≤ g → g < g0 + ks.length → m g = none) : Bm.le m (hdM m g0 ks vs) := fun g b hb => by
  rcases Nat.lt_or_ge g g0 with h1 | h1
  · rw [hdM_lt h1]; exact hb
  · rcases Nat.lt_or_ge g (g0 + ks.length) with h2 | h2
    · rw [h g h1 h2] at hb; cases hb
    · rw [hdM_ge h2]; exact hb
theorem hdM_tail {k : K4} {ks : List K4} {v : Value} {vs : List Value} {g0 g : Nat} (h : g ≠ g0) : hdM m g0 (k :: ks) (v :: vs) g = hdM m (g0 + 1) ks vs g := by
  simp only [hdM]
  rw [if_neg h]
theorem kcell_ev {k : K4} {p : PD} {v : Value} {j g : Nat} (ho : k.ok p = true) (hr : Rep w S p v) (hat : ρ[j]? = some p) (ks : List K4) (vs : List Value) : (k.cell j g).ev (hdM m g (k :: ks) (v :: vs)) ρ = some v := by
  cases k <;> cases hr <;> simp only [K4.ok, Bool.false_eq_true] at ho <;> simp_all [K4.cell, C.ev, E.ev, B.ev, SE.ev, hdM, hdOf]
theorem kcells_ev : ∀ {ks : List K4} {ps : List PD} {vs : List Value} {k0 g0 : Nat}, K4.oks ks ps = true → RepRow w S ps vs → At ρ k0 ps → (∀ g, g0 ≤ g → g < g0 + ks.length → m g = none) →
    evs (hdM m g0 ks vs) ρ (kcells k0 g0 ks) = some vs
  | [], [], [], k0, g0, _, _, _, _ => rfl
  | k :: ks, p :: ps, v :: vs, k0, g0, ho, hr, hat, hm => by
    simp only [K4.oks, Bool.and_eq_true] at ho
    have h0 : ρ[k0]? = some p := hat 0 p rfl
    have h1 := kcell_ev (m := m) (g := g0) ho.1 hr.1 h0 ks vs
    have ih := kcells_ev (k0 := k0 + 1) (g0 := g0 + 1) ho.2 hr.2 hat.tail fun g h1 h2 => hm g (by omega) (by simp only [List.length_cons]; omega)
    have hle : Bm.le (hdM m (g0 + 1) ks vs) (hdM m g0 (k :: ks) (v :: vs)) := fun g b hb => by
      by_cases e : g = g0
      · subst e
        rw [hdM_lt (by omega), hm g (Nat.le_refl _) (by simp)] at hb
        cases hb
      · rw [hdM_tail e]; exact hb
    simp only [kcells, evs, h1, evs_mono hle (Pre.refl ρ) _ _ ih, Option.bind_some]
  | [], _ :: _, _, _, _, ho, _, _, _ => by simp [K4.oks] at ho
  | _ :: _, [], _, _, _, ho, _, _, _ => by simp [K4.oks] at ho
  | [], [], _ :: _, _, _, _, hr, _, _ => hr.elim
  | _ :: _, _ :: _, [], _, _, _, hr, _, _ => hr.elim
theorem knews_ok : ∀ {ks : List K4} {ps : List PD} {vs : List Value} {k0 g0 : Nat}, K4.oks ks ps = true → RepRow w S ps vs → At ρ k0 ps → ∀ g x, lk g (knews k0 g0 ks) = some x →
    g0 ≤ g ∧ g < g0 + ks.length ∧ ∃ k et sz a n c rows, x = some (.per k et sz) ∧ hdM m g0 ks vs g = some (.ow a n c) ∧ ρ[k]? = some (.lst sz rows) ∧ Rep w S (.lst sz rows) (.slice a n c)
  | [], [], [], k0, g0, _, _, _, g, x, h => by simp [knews, lk] at h
  | k :: ks, p :: ps, v :: vs, k0, g0, ho, hr, hat, g, x, h => by
    simp only [K4.oks, Bool.and_eq_true] at ho
    have ih := knews_ok (k0 := k0 + 1) (g0 := g0 + 1) ho.2 hr.2 hat.tail g x
    have htail : lk g (knews (k0 + 1) (g0 + 1) ks) = some x → g0 ≤ g ∧ g < g0 + (k :: ks).length ∧ ∃ j et sz a n c rows, x = some (.per j et sz) ∧ hdM m g0 (k :: ks) (v :: vs) g = some (.ow a n c) ∧ ρ[j]? = some (.lst sz rows) ∧ Rep w S (.lst sz rows) (.slice a n c) := fun h => by
      obtain ⟨h1, h2, j, et, sz, a, n, c, rows, h3, h4, h5, h6⟩ := ih h
      exact ⟨by omega, by simp only [List.length_cons]; omega, j, et, sz, a, n, c, rows, h3, by rw [hdM_tail (by omega)]; exact h4, h5, h6⟩
    cases k with
    | l et sz =>
      simp only [knews, lk] at h
      split at h
      · rename_i e
        subst e
        cases h
        have h0 : ρ[k0]? = some p := hat 0 p rfl
        have ho1 := ho.1
        have hr1 := hr.1
        cases hr1 with
        | lst sz' rows a c vals hlen hmax hmem hnil hspot hcap hrep =>
          simp only [K4.ok, decide_eq_true_eq] at ho1
          subst ho1
          exact ⟨Nat.le_refl _, by simp, k0, et, sz, a, rows.length, c, rows, rfl, by simp [hdM, hdOf], h0, .lst sz rows a c vals hlen hmax hmem hnil hspot hcap hrep⟩
        | _ => simp [K4.ok] at ho1
      · exact htail h
    | _ => simp only [knews] at h; exact htail h
  | [], _ :: _, _, _, _, ho, _, _, _, _, _ => by simp [K4.oks] at ho
  | _ :: _, [], _, _, _, ho, _, _, _, _, _ => by simp [K4.oks] at ho
  | [], [], _ :: _, _, _, _, hr, _, _, _, _ => hr.elim
  | _ :: _, _ :: _, [], _, _, _, hr, _, _, _, _ => hr.elim
/-! plain cells -/
theorem pds_append : ∀ {l l' : List PC} {x y : List PD}, pds ρ l = some x → pds ρ l' = some y → pds ρ (l ++ l') = some (x ++ y)
  | [], l', x, y, h, h' => by simp only [pds, Option.some.injEq] at h; subst h; exact h'
  | c :: cs, l', x, y, h, h' => by
    simp only [pds, Option.bind_eq_some_iff, Option.some.injEq] at h
    obtain ⟨v, hv, us, hus, rfl⟩ := h
    simp only [List.cons_append, pds, hv, Option.bind_some, pds_append hus h']
variable {hp : HpF} {base : Nat}
theorem C.pc_ok (hps : ∀ g h, hp g = some h → HOk w S base m ρ g h) {κ : K4} {c : C} {l : List PC} {v : Value} (h : c.pc hp κ = .ok l) (hv : c.ev m ρ = some v) : ∃ p, pds ρ l = some [p] ∧ κ.ok p = true ∧ Rep w S p v := by
  unfold C.pc at h
  split at h
  · cases h
    simp only [C.ev, Option.map_eq_some_iff] at hv
    obtain ⟨n, hn, rfl⟩ := hv
    exact ⟨.int n, by simp [pds, PC.pd, hn], rfl, .int n⟩
  · cases h
    simp only [C.ev, Option.map_eq_some_iff] at hv
    obtain ⟨n, hn, rfl⟩ := hv
    exact ⟨.bool n, by simp [pds, PC.pd, hn], rfl, .bool n⟩
  · cases h
    simp only [C.ev, Option.map_eq_some_iff] at hv
    obtain ⟨n, hn, rfl⟩ := hv
    exact ⟨.str n, by simp [pds, PC.pd, hn], rfl, .str n⟩
  · cases h
    rename_i k
    have h1 := C.one hv
    simp only [C.ev] at hv
    split at hv
    · rename_i u hu
      split at hv
      · rename_i h2; cases hv; exact ⟨.oth v, by simp [pds, PC.pd, hu, h2], h2, .oth v h2⟩
      · cases hv
    · cases hv
  · cases h
    rename_i u
    simp only [C.ev] at hv
    split at hv
    · rename_i h2; cases hv; exact ⟨.oth v, by simp [pds, PC.pd, h2], h2, .oth v h2⟩
    · cases hv
  · rename_i et sz g
    split at h
    · rename_i k et' sz' hg
      split at h
      · rename_i e
        subst e
        cases h
        obtain ⟨a, n, c, rows, h1, h2, h3⟩ := hps g _ hg
        simp only [C.ev, h1, Option.some.injEq] at hv
        subst hv
        exact ⟨.lst sz' rows, by simp [pds, PC.pd, h2], by simp [K4.ok], h3⟩
      · cases h
    · cases h
    · cases h
  · cases h
    simp only [C.ev] at hv
    split at hv
    · cases hv
      rename_i sz _
      refine ⟨.lst sz [], by simp [pds, PC.pd], by simp [K4.ok], ?_⟩
      exact .lst sz [] none 0 (fun _ _ => undef) (by simp) (by simp) (by simp) (by simp) (by simp) (by simp) (by simp)
    · cases hv
  · cases h
theorem pcsOf_ok (hps : ∀ g h, hp g = some h → HOk w S base m ρ g h) : ∀ {ks : List K4} {cs : List C} {l : List PC} {vs : List Value}, pcsOf hp ks cs = .ok l → evs m ρ cs = some vs → ∃ ps, pds ρ l = some ps ∧ K4.oks ks ps = true ∧ RepRow w S ps vs
  | [], [], l, vs, h, hv => by
    simp only [pcsOf, PR.ok.injEq, evs, Option.some.injEq] at h hv
    subst h hv
    exact ⟨[], rfl, rfl, trivial⟩
  | k :: ks, c :: cs, l, vs, h, hv => by
    simp only [evs, Option.bind_eq_some_iff, Option.some.injEq] at hv
    obtain ⟨v, h1, us, h2, rfl⟩ := hv
    simp only [pcsOf] at h
    split at h
    · rename_i l1 hl1
      split at h
      · rename_i l2 hl2
        cases h
        obtain ⟨p, e1, e2, e3⟩ := C.pc_ok hps hl1 h1
        obtain ⟨ps, e4, e5, e6⟩ := pcsOf_ok hps hl2 h2
        exact ⟨p :: ps, by simpa using pds_append e1 e4, by simp [K4.oks, e2, e5], ⟨e3, e6⟩⟩
      · rename_i x hx; exact absurd h (fun h => hx _ h)
    · rename_i x hx; exact absurd h (fun h => hx _ h)
  | [], _ :: _, _, _, h, _ => by simp [pcsOf] at h
  | _ :: _, [], _, _, h, _ => by simp [pcsOf] at h
theorem rowsOf_ok (hps : ∀ g h, hp g = some h → HOk w S base m ρ g h) {ks : List K4} : ∀ {rs : List (List C)} {L : LE} {vals : List (List Value)}, rowsOf hp ks rs = .ok L → rs.length = vals.length → (∀ (i : Nat) r v, rs[i]? = some r → vals[i]? = some v → evs m ρ r = some v) →
    ∃ rows, LE.rows ρ L = some rows ∧ rows.length = rs.length ∧ RepRows w S ks.length rows vals
  | [], L, vals, h, hl, hv => by
    simp only [rowsOf, SR.ok.injEq] at h
    subst h
    obtain rfl : vals = [] := by cases vals; rfl; simp at hl
    exact ⟨[], rfl, rfl, trivial⟩
  | r :: rs, L, [], h, hl, hv => by simp at hl
  | r :: rs, L, v :: vals, h, hl, hv => by
    simp only [rowsOf] at h
    split at h
    · rename_i l1 hl1
      split at h
      · rename_i l2 hl2
        cases h
        obtain ⟨ps, e1, e2, e3⟩ := pcsOf_ok hps hl1 (hv 0 r v rfl rfl)
        obtain ⟨rows, e4, e5, e6⟩ := rowsOf_ok hps hl2 (by simpa using hl) fun i r' v' h1 h2 => hv (i + 1) r' v' (by simpa using h1) (by simpa using h2)
        exact ⟨ps :: rows, by simp [LE.rows, e1, e4], by simp [e5], ⟨⟨K4.oks_length e2, e3⟩, e6⟩⟩
      · rename_i x hx; exact absurd h (fun h => hx _ h)
    · cases h
    · cases h
theorem LE.len_ok : ∀ {L : LE} {rows : List (List PD)}, LE.rows ρ L = some rows → ∃ n, lensEv ρ L.vars = some n ∧ rows.length = n + L.more
  | [], rows, h => by simp only [LE.rows, Option.some.injEq] at h; subst h; exact ⟨0, rfl, rfl⟩
  | .va k :: l, rows, h => by
    simp only [LE.rows] at h
    cases hk : ρ[k]? with
    | none => rw [hk] at h; simp at h
    | some s =>
      rw [hk] at h
      cases s with
      | lst sz rs =>
        simp only [Option.map_eq_some_iff] at h
        obtain ⟨x, hx, rfl⟩ := h
        obtain ⟨n, h1, h2⟩ := LE.len_ok hx
        exact ⟨rs.length + n, by simp [LE.vars, lensEv, hk, h1], by simp [LE.more, h2]; omega⟩
      | _ => simp at h
  | .row r :: l, rows, h => by
    simp only [LE.rows, Option.bind_eq_some_iff, Option.map_eq_some_iff] at h
    obtain ⟨x, _, y, hy, rfl⟩ := h
    obtain ⟨n, h1, h2⟩ := LE.len_ok hy
    exact ⟨n, h1, by simp [LE.more, h2]; omega⟩
theorem LE.len_ev {L : LE} {rows : List (List PD)} (h : LE.rows ρ L = some rows) : L.len.ev ρ = some (rows.length : Int) := by
  obtain ⟨n, h1, h2⟩ := LE.len_ok h
  rw [LE.len, E.lens'_ev h1, h2]
theorem HC.len_ev {g : Nat} {h : HC} {e : E} (hk : HOk w S base m ρ g h) (he : h.len = some e) : ∃ a n c, m g = some (.ow a n c) ∧ e.ev ρ = some (n : Int) := by
  cases h with
  | blk cs t => cases he
  | own L et sz =>
    cases he
    obtain ⟨a, n, c, rows, vals, h1, h2, rfl, _⟩ := hk
    exact ⟨a, _, c, h1, LE.len_ev h2⟩
  | per k et sz =>
    cases he
    obtain ⟨a, n, c, rows, h1, h2, h3⟩ := hk
    obtain ⟨rfl, _⟩ := h3.list
    exact ⟨a, _, c, h1, by simp [E.ev, lensEv, h2]⟩
/-! arguments -/
def RepS1 (w : World) (S : Nat → Prop) : S1 → List PD → Value → Prop
  | .one k, ps, v => ∃ p, ps = [p] ∧ k.ok p = true ∧ Rep w S p v
  | .agg l, ps, v => ∃ vs : List Value, v = .agg vs.toArray ∧ K4.oks l ps = true ∧ RepRow w S ps vs
def RepArgs (w : World) (S : Nat → Prop) : List S1 → List PD → List Value → Prop
  | [], ps, vs => ps = [] ∧ vs = []
  | s :: ss, ps, vs => ∃ p1 p2 v us, ps = p1 ++ p2 ∧ vs = v :: us ∧ RepS1 w S s p1 v ∧ RepArgs w S ss p2 us
def RepSh (w : World) (S : Nat → Prop) : Sh → List PD → Value → Prop
  | .one s, ps, v => RepS1 w S s ps v
  | .tup l, ps, v => ∃ vs : List Value, v = .tuple vs.toArray ∧ RepArgs w S l ps vs
theorem RepS1.mono {w' : World} {S' : Nat → Prop} (hS : ∀ b, S b → S' b) (hw : ∀ b, S b → w'.heap[b]? = w.heap[b]?) {s : S1} {ps : List PD} {v : Value} (h : RepS1 w S s ps v) : RepS1 w' S' s ps v := by
  cases s with
  | one k => obtain ⟨p, h1, h2, h3⟩ := h; exact ⟨p, h1, h2, h3.mono hS hw⟩
  | agg l => obtain ⟨vs, h1, h2, h3⟩ := h; exact ⟨vs, h1, h2, h3.mono hS hw⟩
theorem RepArgs.mono {w' : World} {S' : Nat → Prop} (hS : ∀ b, S b → S' b) (hw : ∀ b, S b → w'.heap[b]? = w.heap[b]?) : ∀ {ss : List S1} {ps : List PD} {vs : List Value}, RepArgs w S ss ps vs → RepArgs w' S' ss ps vs
  | [], ps, vs, h => h
  | s :: ss, ps, vs, h => by
    obtain ⟨p1, p2, v, us, h1, h2, h3, h4⟩ := h
    exact ⟨p1, p2, v, us, h1, h2, h3.mono hS hw, h4.mono hS hw⟩
theorem RepSh.mono {w' : World} {S' : Nat → Prop} (hS : ∀ b, S b → S' b) (hw : ∀ b, S b → w'.heap[b]? = w.heap[b]?) {s : Sh} {ps : List PD} {v : Value} (h : RepSh w S s ps v) : RepSh w' S' s ps v := by
  cases s with
  | one s => exact RepS1.mono hS hw h
  | tup l => obtain ⟨vs, h1, h2⟩ := h; exact ⟨vs, h1, h2.mono hS hw⟩
theorem argS1_ok (hps : ∀ g h, hp g = some h → HOk w S base m ρ g h) {s : S1} {t : T1} {l : List PC} {v : Value} (hf : T1.fits s t = true) (h : pcsOf hp s.ks t.cells = .ok l) (hv : t.ev m ρ = some v) : ∃ ps, pds ρ l = some ps ∧ RepS1 w S s ps v := by
  cases s with
  | one k => cases t with
    | ce c =>
      obtain ⟨ps, h1, h2, h3⟩ := pcsOf_ok hps h (show evs m ρ [c] = some [v] by simp only [T1.ev] at hv; simp [evs, hv])
      match ps, h2, h3 with
      | [p], h2, h3 => exact ⟨[p], h1, p, rfl, by simpa [K4.oks, S1.ks] using h2, h3.1⟩
    | ag cs => simp [T1.fits] at hf
  | agg ks => cases t with
    | ce c => simp [T1.fits] at hf
    | ag cs =>
      simp only [T1.ev, Option.map_eq_some_iff] at hv
      obtain ⟨vs, h0, rfl⟩ := hv
      obtain ⟨ps, h1, h2, h3⟩ := pcsOf_ok hps h h0
      exact ⟨ps, h1, vs, rfl, h2, h3⟩
theorem argsOf_ok (hps : ∀ g h, hp g = some h → HOk w S base m ρ g h) : ∀ {ss : List S1} {ts : List T1} {l : List PC} {vs : List Value}, argsOf hp ss ts = .ok l → T1.evs m ρ ts = some vs → ∃ ps, pds ρ l = some ps ∧ RepArgs w S ss ps vs
  | [], [], l, vs, h, hv => by
    simp only [argsOf, PR.ok.injEq, T1.evs, Option.some.injEq] at h hv
    subst h hv
    exact ⟨[], rfl, rfl, rfl⟩
  | s :: ss, t :: ts, l, vs, h, hv => by
    simp only [T1.evs, Option.bind_eq_some_iff, Option.some.injEq] at hv
    obtain ⟨v, h1, us, h2, rfl⟩ := hv
    simp only [argsOf] at h
    split at h
    · rename_i hf
      split at h
      · rename_i l1 hl1
        split at h
        · rename_i l2 hl2
          cases h
          obtain ⟨p1, e1, e2⟩ := argS1_ok hps hf hl1 h1
          obtain ⟨p2, e3, e4⟩ := argsOf_ok hps hl2 h2
          exact ⟨p1 ++ p2, pds_append e1 e3, p1, p2, v, us, rfl, rfl, e2, e4⟩
        · rename_i x hx; exact absurd h (fun h => hx _ h)
      · rename_i x hx; exact absurd h (fun h => hx _ h)
    · cases h
  | [], _ :: _, _, _, h, _ => by simp [argsOf] at h
  | _ :: _, [], _, _, h, _ => by simp [argsOf] at h
/-! .. and a called function's answer, as letters -/
theorem RepS1.oks {s : S1} {ps : List PD} {v : Value} (h : RepS1 w S s ps v) : K4.oks s.ks ps = true ∧ ∃ vs, RepRow w S ps vs ∧ v.cells.toList = vs := by
  cases s with
  | one k => obtain ⟨p, rfl, h2, h3⟩ := h; exact ⟨by simp [S1.ks, K4.oks, h2], [v], ⟨h3, trivial⟩, by rw [cells_one h3.one]⟩
  | agg l => obtain ⟨vs, rfl, h2, h3⟩ := h; exact ⟨h2, vs, h3, rfl⟩
theorem K4.oks_append : ∀ {k1 k2 : List K4} {p1 p2 : List PD}, K4.oks k1 p1 = true → K4.oks k2 p2 = true → K4.oks (k1 ++ k2) (p1 ++ p2) = true
  | [], k2, [], p2, _, h => h
  | k :: k1, k2, p :: p1, p2, h, h' => by
    simp only [K4.oks, Bool.and_eq_true] at h
    simp [K4.oks, h.1, K4.oks_append h.2 h']
  | [], _, _ :: _, _, h, _ => by simp [K4.oks] at h
  | _ :: _, _, [], _, h, _ => by simp [K4.oks] at h
def flatV : List Value → List Value
  | [] => []
  | v :: vs => v.cells.toList ++ flatV vs
theorem RepArgs.oks : ∀ {ss : List S1} {ps : List PD} {vs : List Value}, RepArgs w S ss ps vs → K4.oks (sks ss) ps = true ∧ RepRow w S ps (flatV vs)
  | [], ps, vs, h => by obtain ⟨rfl, rfl⟩ := h; exact ⟨rfl, trivial⟩
  | s :: ss, ps, vs, h => by
    obtain ⟨p1, p2, v, us, rfl, rfl, h3, h4⟩ := h
    obtain ⟨e1, vs', e2, e3⟩ := h3.oks
    obtain ⟨e4, e5⟩ := RepArgs.oks h4
    exact ⟨K4.oks_append e1 e4, by simp only [flatV, e3]; exact e2.append e5⟩
theorem hdM_append_left : ∀ {k1 k2 : List K4} {v1 v2 : List Value} {g0 g : Nat}, k1.length = v1.length → g < g0 + k1.length → g0 ≤ g → hdM m g0 (k1 ++ k2) (v1 ++ v2) g = hdM m g0 k1 v1 g
  | [], k2, [], v2, g0, g, _, h, h' => by simp at h; omega
  | k :: k1, k2, v :: v1, v2, g0, g, hl, h, h' => by
    simp only [List.cons_append]
    by_cases e : g = g0
    · subst e
      simp [hdM]
    · rw [hdM_tail e, hdM_tail e]
      exact hdM_append_left (by simpa using hl) (by simp at h; omega) (by omega)
  | [], _, _ :: _, _, _, _, hl, _, _ => by simp at hl
  | _ :: _, _, [], _, _, _, hl, _, _ => by simp at hl
theorem hdM_append_right : ∀ {k1 k2 : List K4} {v1 v2 : List Value} {g0 g : Nat}, k1.length = v1.length → g0 + k1.length ≤ g → hdM m g0 (k1 ++ k2) (v1 ++ v2) g = hdM m (g0 + k1.length) k2 v2 g
  | [], k2, [], v2, g0, g, _, _ => by simp
  | k :: k1, k2, v :: v1, v2, g0, g, hl, h => by
    simp only [List.cons_append, List.length_cons] at h ⊢
    rw [hdM_tail (by omega), hdM_append_right (by simpa using hl) (by omega)]
    congr 1
    omega
  | [], _, _ :: _, _, _, _, hl, _ => by simp at hl
  | _ :: _, _, [], _, _, _, hl, _ => by simp at hl
theorem t1_ev {s : S1} {ps : List PD} {v : Value} {k0 g0 : Nat} {m' : Bm} (h : RepS1 w S s ps v) (hat : At ρ k0 ps) (hm : ∀ g, g0 ≤ g → g < g0 + s.ks.length → m g = none) (hle : Bm.le (hdM m g0 s.ks v.cells.toList) m') : (s.t1 k0 g0).ev m' ρ = some v := by
  cases s with
  | one k =>
    obtain ⟨p, rfl, h2, h3⟩ := h
    have h0 : ρ[k0]? = some p := hat 0 p rfl
    have := kcell_ev (m := m) (g := g0) h2 h3 h0 [] []
    refine C.mono hle (Pre.refl ρ) _ _ ?_
    rw [cells_one h3.one]
    exact this
  | agg l =>
    obtain ⟨vs, rfl, h2, h3⟩ := h
    have := kcells_ev (m := m) h2 h3 hat hm
    simp only [S1.t1, T1.ev, evs_mono hle (Pre.refl ρ) _ _ this, Option.map_some]
theorem t1s_ev : ∀ {ss : List S1} {ps : List PD} {vs : List Value} {k0 g0 : Nat} {m' : Bm}, RepArgs w S ss ps vs → At ρ k0 ps → (∀ g, g0 ≤ g → g < g0 + (sks ss).length → m g = none) → Bm.le (hdM m g0 (sks ss) (flatV vs)) m' →
    T1.evs m' ρ (t1sFrom k0 g0 ss) = some vs
  | [], ps, vs, k0, g0, m', h, hat, hm, hle => by obtain ⟨rfl, rfl⟩ := h; rfl
  | s :: ss, ps, vs, k0, g0, m', h, hat, hm, hle => by
    obtain ⟨p1, p2, v, us, rfl, rfl, h3, h4⟩ := h
    have hlen : s.ks.length = v.cells.toList.length := by
      obtain ⟨e1, vs', e2, e3⟩ := h3.oks
      rw [e3, e2.length, K4.oks_length e1]
    have hp1 : p1.length = s.ks.length := K4.oks_length h3.oks.1
    simp only [sks, flatV, List.length_append] at hm hle
    have l1 : Bm.le (hdM m g0 s.ks v.cells.toList) m' := fun g b hb => by
      refine hle g b ?_
      rcases Nat.lt_or_ge g g0 with c1 | c1
      · rw [hdM_lt c1] at hb ⊢; exact hb
      · rcases Nat.lt_or_ge g (g0 + s.ks.length) with c2 | c2
        · rw [hdM_append_left hlen c2 c1]; exact hb
        · rw [hdM_ge c2] at hb
          rcases Nat.lt_or_ge g (g0 + (s.ks.length + (sks ss).length)) with c3 | c3
          · rw [hm g c1 c3] at hb; cases hb
          · rw [hdM_ge (by simpa using c3)]; exact hb
    have l2 : Bm.le (hdM m (g0 + s.ks.length) (sks ss) (flatV us)) m' := fun g b hb => by
      refine hle g b ?_
      rcases Nat.lt_or_ge g (g0 + s.ks.length) with c2 | c2
      · rw [hdM_lt c2] at hb
        rcases Nat.lt_or_ge g g0 with c1 | c1
        · rw [hdM_lt c1]; exact hb
        · rw [hm g c1 (by omega)] at hb; cases hb
      · rw [hdM_append_right hlen c2]; exact hb
    have e1 := t1_ev (m := m) h3 hat.left (fun g c1 c2 => hm g c1 (by omega)) l1
    have e2 := t1s_ev (k0 := k0 + s.ks.length) h4 (by have := hat.right; rwa [hp1] at this) (fun g c1 c2 => hm g (by omega) (by omega)) l2
    simp only [t1sFrom, T1.evs, e1, e2, Option.bind_some]
def Sh.flat : Sh → Value → List Value
  | .tup _, .tuple vs => flatV vs.toList
  | _, v => v.cells.toList
theorem RepSh.oks {s : Sh} {ps : List PD} {v : Value} (h : RepSh w S s ps v) : K4.oks s.ks ps = true ∧ RepRow w S ps (s.flat v) := by
  cases s with
  | one s => obtain ⟨e1, vs, e2, e3⟩ := RepS1.oks h; exact ⟨e1, by simp only [Sh.flat, e3]; exact e2⟩
  | tup l => obtain ⟨vs, rfl, h2⟩ := h; exact RepArgs.oks h2
theorem sh_ev {s : Sh} {ps : List PD} {v : Value} {k0 g0 : Nat} {m' : Bm} (h : RepSh w S s ps v) (hat : At ρ k0 ps) (hm : ∀ g, g0 ≤ g → g < g0 + s.ks.length → m g = none) (hle : Bm.le (hdM m g0 s.ks (s.flat v)) m') : (s.sv k0 g0).ev m' ρ = some v := by
  cases s with
  | one s => exact t1_ev h hat hm hle
  | tup l =>
    obtain ⟨vs, rfl, h2⟩ := h
    have := t1s_ev (m := m) h2 hat hm hle
    simp only [Sh.sv, SV.ev, this, Option.map_some]
end
/-! ### 7. That an operation does what is told of it -/
section
variable {P : Program} {env : Env} {S0 : Nat → Prop} {base : Nat} {W0 w : World} {hp : HpF} {m : Bm} {ρ : List PD} {r : Rd} {a : Act} {o : Oper}
def EffOk (P : Program) (env : Env) (S0 : Nat → Prop) (base : Nat) (W0 : World) (hp : HpF) (m : Bm) (ρ : List PD) (r : Rd) (a : Act) (w : World) (o : Oper) : Eff → Prop
  | .ok v upd => ∃ m' w', Bm.le m m' ∧ (∀ g, ¬ (r.nb ≤ g ∧ g < r.nb + 64) → m' g = m g) ∧ HR S0 base W0 (updA hp upd) m' ρ w' ∧
      ((∃ u, v.ev m' ρ = some u ∧ (execOp a.eval o).run P w = .ok (.value u) w') ∨ (v = .tup [] ∧ (execOp a.eval o).run P w = .ok .skip w'))
  | .call f pcs k0 sh => ∃ vs ps sg, execOp a.eval o = callFunc f vs.toArray ∧ pds ρ pcs = some ps ∧ env.fs.lookup f = some (sg, sh) ∧ RepArgs w (Stab S0 base hp m w) sg ps vs ∧ lkCall f pcs r.cm = some k0 ∧ sh.ks.length ≤ 64 ∧ f < 3000000
  | _ => True
def GmOk (gm : List (Nat × E × Nat × List K4)) (ρ : List PD) : Prop := ∀ k i k0 ks, (k, i, k0, ks) ∈ gm → ∃ sz rows iv row, ρ[k]? = some (.lst sz rows) ∧ i.ev ρ = some iv ∧ rows[iv.toNat]? = some row ∧ At ρ k0 row ∧ K4.oks ks row = true
theorem lkGet_mem {k : Nat} {i : E} {x : Nat × List K4} : ∀ {l : List (Nat × E × Nat × List K4)}, lkGet k i l = some x → (k, i, x) ∈ l
  | [], h => by simp [lkGet] at h
  | (k', i', y) :: l, h => by
    simp only [lkGet] at h
    split at h
    · rename_i e; cases h; rw [e.1, e.2]; simp
    · exact List.mem_cons_of_mem _ (lkGet_mem h)
theorem effv (hH : HR S0 base W0 hp m ρ w) {v : SV} (u : Value) (hv : v.ev m ρ = some u) (hr : (execOp a.eval o).run P w = .ok (.value u) w) : EffOk P env S0 base W0 hp m ρ r a w o (.ok v []) :=
  ⟨m, w, Bm.le_refl m, fun _ _ => rfl, hH, .inl ⟨u, hv, hr⟩⟩
def updM (m : Bm) (g : Nat) (b : Mb) : Bm := fun g' => if g' = g then some b else m g'
theorem updM_le {g : Nat} {b : Mb} (hg : m g = none) : Bm.le m (updM m g b) := fun g' b' h => by
  unfold updM
  split
  · rename_i he; subst he; rw [hg] at h; cases h
  · exact h
theorem fresh_hp (hH : HR S0 base W0 hp m ρ w) {g : Nat} (hg : m g = none) : hp g = none := by
  cases h : hp g with
  | none => rfl
  | some c => obtain ⟨x, hx⟩ := (hH.hps g c h).here; rw [hg] at hx; cases hx
theorem Below.of_alloc (w : World) (c : Obj) (B : Nat) (hB : B ≤ w.heap.size) : Below B w (w.alloc c) := (Below.refl _ _).alloc hB c
theorem alloc_size (w : World) (c : Obj) : (w.alloc c).heap.size = w.heap.size + 1 := by show (w.heap.push _).size = _; simp
theorem eff_alloc (hH : HR S0 base W0 hp m ρ w) (hf : ∀ g, r.nb ≤ g → g < r.nb + 64 → m g = none) {cs : List C} {vs : List Value} {t : Nat} (hv : evs m ρ cs = some vs)
    (hr : (execOp a.eval o).run P w = .ok (.value (.pointer (some ⟨w.heap.size, 0, none⟩))) (w.alloc (.cells vs.toArray t (0, 0)))) : EffOk P env S0 base W0 hp m ρ r a w o (.ok (.one (.ce (.pt r.nb 0))) [(r.nb, some (.blk cs t))]) := by
  have hn := hf r.nb (Nat.le_refl _) (by omega)
  have hle : Bm.le m (updM m r.nb (.bk w.heap.size)) := updM_le hn
  refine ⟨updM m r.nb (.bk w.heap.size), w.alloc (.cells vs.toArray t (0, 0)), hle, fun g hg => by simp only [updM]; rw [if_neg (by omega)], ?_, .inl ⟨_, by simp [SV.ev, T1.ev, C.ev, updM], hr⟩⟩
  refine hH.upd hle (Pre.refl ρ) (Below.of_alloc _ _ _ hH.le) none (by simp) (fun b hb _ => Below.heap_alloc _ _ _ hb) (fun g => g = r.nb) (fun g c hc hne => ?_) (fun g c b hg hc _ hb => ?_) (fun g g' c c' b h1 h2 _ _ _ _ _ _ => by rw [h1, h2]) (fun hS hW g c hg hc => ?_)
  · simp only [updA, lk] at hc
    rw [if_neg (Ne.symm hne)] at hc
    exact ⟨hc, by simp⟩
  · subst hg
    simp only [updM, if_pos, blkOf, Option.some.injEq] at hb
    rw [alloc_size]
    exact ⟨.inl (by omega), by omega⟩
  · subst hg
    simp only [updA, lk, if_pos, Option.some.injEq] at hc
    subst hc
    exact ⟨w.heap.size, vs, by simp [updM], evs_mono hle (Pre.refl ρ) _ _ hv, by show (w.heap.push _)[w.heap.size]? = _; simp⟩
theorem eff_own (hH : HR S0 base W0 hp m ρ w) (hf : ∀ g, r.nb ≤ g → g < r.nb + 64 → m g = none) {L : LE} {rows : List (List PD)} {vals : List (List Value)} {et sz n : Nat} (hL : LE.rows ρ L = some rows) (hn : rows.length = n) (hR : RepRows w (Stab S0 base hp m w) sz rows vals)
    (hz : sz ≠ 0) (hmx : n ≤ maxLen) (hr : (execOp a.eval o).run P w = .ok (.value (.slice (some ⟨w.heap.size, 0, none⟩) n n)) (w.alloc (.cells vals.flatten.toArray et (0, 0)))) :
    EffOk P env S0 base W0 hp m ρ r a w o (.ok (.one (.ce (.hd r.nb))) [(r.nb, some (.own L et sz))]) := by
  have hnn := hf r.nb (Nat.le_refl _) (by omega)
  have hle : Bm.le m (updM m r.nb (.ow (some ⟨w.heap.size, 0, none⟩) n n)) := updM_le hnn
  refine ⟨updM m r.nb (.ow (some ⟨w.heap.size, 0, none⟩) n n), w.alloc (.cells vals.flatten.toArray et (0, 0)), hle, fun g hg => by simp only [updM]; rw [if_neg (by omega)], ?_, .inl ⟨_, by simp [SV.ev, T1.ev, C.ev, updM], hr⟩⟩
  refine hH.upd hle (Pre.refl ρ) (Below.of_alloc _ _ _ hH.le) none (by simp) (fun b hb _ => Below.heap_alloc _ _ _ hb) (fun g => g = r.nb) (fun g c hc hne => ?_) (fun g c b hg hc _ hb => ?_) (fun g g' c c' b h1 h2 _ _ _ _ _ _ => by rw [h1, h2]) (fun hS hW g c hg hc => ?_)
  · simp only [updA, lk] at hc
    rw [if_neg (Ne.symm hne)] at hc
    exact ⟨hc, by simp⟩
  · subst hg
    simp only [updM, if_pos, blkOf, Option.some.injEq] at hb
    rw [alloc_size]
    exact ⟨.inl (by omega), by omega⟩
  · subst hg
    simp only [updA, lk, if_pos, Option.some.injEq] at hc
    subst hc
    refine ⟨some ⟨w.heap.size, 0, none⟩, n, n, rows, vals, by simp [updM], hL, hn, hR.mono hS hW, ?_, hz⟩
    have := World.ownsRow_lit (base := base) (e := et) (size := sz) w vals.flatten.toArray n hH.le hmx (by
      simp only [List.size_toArray]
      rw [flatten_length (sz := sz) fun v hv => (hR.row v hv).1, hR.length, hn])
    simpa using this
theorem RepRows.wide {w : World} {S : Nat → Prop} {sz : Nat} : ∀ {ps : List (List PD)} {vs : List (List Value)}, RepRows w S sz ps vs → ∀ p ∈ ps, p.length = sz
  | [], [], _, p, hp => by simp at hp
  | q :: ps, _ :: _, h, p, hp => by
    rcases List.mem_cons.1 hp with rfl | hp
    · exact h.1.1
    · exact RepRows.wide h.2 p hp
  | [], _ :: _, h, _, _ => h.elim
  | _ :: _, [], h, _, _ => h.elim
theorem flat_lengthP {sz : Nat} : ∀ {vs : List (List PD)}, (∀ v ∈ vs, v.length = sz) → vs.flatten.length = vs.length * sz
  | [], _ => by simp
  | u :: vs, h => by
    have := flat_lengthP (fun v hv => h v (by simp [hv]) : ∀ v ∈ vs, v.length = sz)
    simp only [List.flatten_cons, List.length_append, List.length_cons, this, h u (by simp), Nat.add_mul, Nat.one_mul]
    omega
theorem unfl_flatten {sz : Nat} : ∀ {rows : List (List PD)}, (∀ r ∈ rows, r.length = sz) → unfl sz rows.length rows.flatten = rows
  | [], _ => rfl
  | r :: rows, h => by
    have h1 := h r (by simp)
    simp only [List.length_cons, unfl, List.flatten_cons]
    have ih := unfl_flatten (sz := sz) (rows := rows) fun x hx => h x (by simp [hx])
    subst h1
    rw [List.take_left, List.drop_left, ih]
theorem flatL_ev {ρ : List PD} : ∀ {L : LE} {pcs : List PC} {rows : List (List PD)}, flatL L = some pcs → LE.rows ρ L = some rows → pds ρ pcs = some rows.flatten
  | [], pcs, rows, h, h' => by
    simp only [flatL, Option.some.injEq] at h
    simp only [LE.rows, Option.some.injEq] at h'
    subst h h'; rfl
  | .row l :: L, pcs, rows, h, h' => by
    simp only [flatL] at h
    split at h
    · rename_i l' hl
      cases h
      simp only [LE.rows, Option.bind_eq_some_iff, Option.map_eq_some_iff] at h'
      obtain ⟨x, hx, y, hy, rfl⟩ := h'
      have ih := flatL_ev hl hy
      simp only [List.flatten_cons]
      exact pds_append hx ih
    · cases h
  | .va _ :: L, pcs, rows, h, h' => by simp [flatL] at h
theorem mk_mod (e sz : Nat) (h : sz < 64) : (1000000 + (64 * e + sz) - 1000000) % 64 = sz := by omega
theorem mk_big (e sz : Nat) : ¬ 1000000 + (64 * e + sz) < 1000000 := by omega
theorem eff_mk (hH : HR S0 base W0 hp m ρ w) (hf : ∀ g, r.nb ≤ g → g < r.nb + 64 → m g = none) {k0 : Nat} {rows : List (List PD)} {vals : List (List Value)} {et sz n : Nat} (hat : ρ[k0]? = some (.lst sz rows)) (hn : rows.length = n) (hR : RepRows w (Stab S0 base hp m w) sz rows vals)
    (hz : sz ≠ 0) (hmx : n ≤ maxLen) (hr : (execOp a.eval o).run P w = .ok (.value (.slice (some ⟨w.heap.size, 0, none⟩) n n)) (w.alloc (.cells vals.flatten.toArray et (0, 0)))) :
    EffOk P env S0 base W0 hp m ρ r a w o (.ok (.one (.ce (.hd r.nb))) [(r.nb, some (.per k0 et sz))]) := by
  have hnn := hf r.nb (Nat.le_refl _) (by omega)
  have hle : Bm.le m (updM m r.nb (.ow (some ⟨w.heap.size, 0, none⟩) n n)) := updM_le hnn
  refine ⟨updM m r.nb (.ow (some ⟨w.heap.size, 0, none⟩) n n), w.alloc (.cells vals.flatten.toArray et (0, 0)), hle, fun g hg => by simp only [updM]; rw [if_neg (by omega)], ?_, .inl ⟨_, by simp [SV.ev, T1.ev, C.ev, updM], hr⟩⟩
  refine hH.upd hle (Pre.refl ρ) (Below.of_alloc _ _ _ hH.le) none (by simp) (fun b hb _ => Below.heap_alloc _ _ _ hb) (fun g => g = r.nb) (fun g c hc hne => ?_) (fun g c b hg hc hwr hb => ?_) (fun g g' c c' b h1 h2 _ _ _ _ _ _ => by rw [h1, h2]) (fun hS hW g c hg hc => ?_)
  · simp only [updA, lk] at hc
    rw [if_neg (Ne.symm hne)] at hc
    exact ⟨hc, by simp⟩
  · subst hg
    simp only [updA, lk, if_pos, Option.some.injEq] at hc
    subst hc; cases hwr
  · subst hg
    simp only [updA, lk, if_pos, Option.some.injEq] at hc
    subst hc
    have hown := World.ownsRow_lit (base := base) (e := et) (size := sz) w vals.flatten.toArray n hH.le hmx (by
      simp only [List.size_toArray]
      rw [flatten_length (sz := sz) fun v hv => (hR.row v hv).1, hR.length, hn])
    refine ⟨some ⟨w.heap.size, 0, none⟩, n, n, rows, by simp [updM], hat, ?_⟩
    subst hn
    refine Rep.of_list (Nat.le_refl _) hmx (by simp) (by intro _ ad h; cases h; rfl) (hR.mono hS hW) fun hne => ⟨w.heap.size, 0, rfl, ⟨.inr hH.le, by rw [alloc_size]; omega, fun g h hh hwr he => ?_⟩, fun i j v x hi hj => ?_⟩
    · simp only [updA, lk] at hh
      by_cases e0 : r.nb = g
      · rw [if_pos e0] at hh
        cases hh; cases hwr
      · rw [if_neg e0] at hh
        have e1 : updM m r.nb (.ow (some ⟨w.heap.size, 0, none⟩) rows.length rows.length) g = m g := by simp only [updM]; rw [if_neg (Ne.symm e0)]
        rw [e1] at he
        have := (hH.low g _ _ hh hwr he).2
        omega
    · have h1 := flatten_get (fun v hv => (hR.row v hv).1) hi hj
      have := (by simpa using hown : (w.alloc (.cells vals.flatten.toArray et (0, 0))).ownsRow base et sz (.slice (some ⟨w.heap.size, 0, none⟩) rows.length rows.length) rows.length vals.flatten).cells rfl (i * sz + j) x h1
      rw [add_zero'] at this
      rw [Nat.zero_add] at this ⊢
      exact this
theorem eff_news (hH : HR S0 base W0 hp m ρ w) {nb : Nat} {ks : List K4} {ps : List PD} {vs : List Value} {k0 : Nat} (hl : ks.length ≤ 64) (hf : ∀ g, nb ≤ g → g < nb + 64 → m g = none) (ho : K4.oks ks ps = true) (hR : RepRow w (Stab S0 base hp m w) ps vs) (hat : At ρ k0 ps) :
    Bm.le m (hdM m nb ks vs) ∧ (∀ g, ¬ (nb ≤ g ∧ g < nb + 64) → hdM m nb ks vs g = m g) ∧ HR S0 base W0 (updA hp (knews k0 nb ks)) (hdM m nb ks vs) ρ w ∧ evs (hdM m nb ks vs) ρ (kcells k0 nb ks) = some vs := by
  have hf' : ∀ g, nb ≤ g → g < nb + ks.length → m g = none := fun g h1 h2 => hf g h1 (by omega)
  have hle := hdM_le (vs := vs) hf'
  refine ⟨hle, fun g hg => ?_, ?_, kcells_ev ho hR hat hf'⟩
  · rcases Nat.lt_or_ge g nb with h1 | h1
    · exact hdM_lt h1
    · exact hdM_ge (by omega)
  · refine hH.upd hle (Pre.refl ρ) (Below.refl _ _) none (by simp) (fun _ _ _ => rfl) (fun g => (lk g (knews k0 nb ks)).isSome) (fun g c hc hne => ?_) (fun g c b hg hc hwr hb => ?_) (fun g g' c c' b h1 h2 hc hc' hwr hwr' _ _ => ?_) (fun hS hW g c hg hc => ?_)
    · simp only [updA] at hc
      cases hl : lk g (knews k0 nb ks) with
      | none => rw [hl] at hc; exact ⟨hc, by simp⟩
      | some x => simp [hl] at hne
    · exfalso
      obtain ⟨x, hx⟩ := Option.isSome_iff_exists.1 hg
      obtain ⟨_, _, k, et, sz, a, n, c', rows, e1, _⟩ := knews_ok (m := m) ho hR hat g x hx
      simp only [updA, hx, e1, Option.some.injEq] at hc
      subst hc
      cases hwr
    · exfalso
      obtain ⟨x, hx⟩ := Option.isSome_iff_exists.1 h1
      obtain ⟨_, _, k, et, sz, a, n, c', rows, e1, _⟩ := knews_ok (m := m) ho hR hat g x hx
      simp only [updA, hx, e1, Option.some.injEq] at hc
      subst hc
      cases hwr
    · obtain ⟨x, hx⟩ := Option.isSome_iff_exists.1 hg
      obtain ⟨_, _, k, et, sz, a, n, c', rows, e1, e2, e3, e4⟩ := knews_ok (m := m) ho hR hat g x hx
      simp only [updA, hx, e1, Option.some.injEq] at hc
      subst hc
      exact ⟨a, n, c', rows, e2, e3, e4.mono hS hW⟩
theorem flatten_inv : ∀ {vs : List (List Value)} {sz j : Nat} {u : Value}, (∀ v ∈ vs, v.length = sz) → vs.flatten[j]? = some u → ∃ i k v, j = i * sz + k ∧ k < sz ∧ vs[i]? = some v ∧ v[k]? = some u
  | [], sz, j, u, h, hj => by simp at hj
  | v :: vs, sz, j, u, h, hj => by
    have hv : v.length = sz := h v (by simp)
    simp only [List.flatten_cons] at hj
    rcases Nat.lt_or_ge j sz with h1 | h1
    · rw [List.getElem?_append_left (by omega)] at hj
      exact ⟨0, j, v, by simp, h1, rfl, hj⟩
    · rw [List.getElem?_append_right (by omega), hv] at hj
      obtain ⟨i, k, v', e1, e2, e3, e4⟩ := flatten_inv (fun v hv => h v (by simp [hv])) hj
      exact ⟨i + 1, k, v', by rw [Nat.add_mul]; omega, e2, by simpa using e3, e4⟩
theorem LE.rows_append : ∀ {L L' : LE} {x y : List (List PD)}, LE.rows ρ L = some x → LE.rows ρ L' = some y → LE.rows ρ (L ++ L') = some (x ++ y)
  | [], L', x, y, h, h' => by simp only [LE.rows, Option.some.injEq] at h; subst h; exact h'
  | .va k :: l, L', x, y, h, h' => by
    simp only [List.cons_append, LE.rows] at h ⊢
    cases hk : ρ[k]? with
    | none => rw [hk] at h; simp at h
    | some s =>
      rw [hk] at h
      cases s with
      | lst sz rows =>
        simp only [Option.map_eq_some_iff] at h
        obtain ⟨z, hz, rfl⟩ := h
        simp [LE.rows_append hz h']
      | _ => simp at h
  | .row q :: l, L', x, y, h, h' => by
    simp only [List.cons_append, LE.rows, Option.bind_eq_some_iff, Option.map_eq_some_iff] at h ⊢
    obtain ⟨z, hz, t, ht, rfl⟩ := h
    exact ⟨z, hz, t ++ y, LE.rows_append ht h', rfl⟩
theorem roomOf_ok {k bs : Nat} (h : k ≤ roomOf bs) (hb : bs ≠ 0) : k ≤ maxLen ∧ k * bs ≤ 140737488355328 := by
  unfold roomOf at h
  rw [if_neg hb] at h
  have h2 : k ≤ 140737488355328 / bs := by omega
  exact ⟨by omega, (Nat.le_div_iff_mul_le (by omega)).1 h2⟩
/-- What is appended, as it lies. -/
structure Src (w : World) (sz : Nat) (S : Nat → Prop) (rows : List (List PD)) (v : Value) (vals : List (List Value)) : Prop where
  rep : RepRows w S sz rows vals
  val : ∃ ad c, v = .slice ad rows.length c ∧ (ad = none → rows = [] ∧ c = 0) ∧ ∀ x, ad = some x → ∀ j u, vals.flatten[j]? = some u → w.cell? (x.add j) = some u
theorem src_own {S : Nat → Prop} {L : LE} {g et sz : Nat} (h : HOk w S base m ρ g (.own L et sz)) {v : Value} (hv : (C.hd g).ev m ρ = some v) : ∃ rows vals, LE.rows ρ L = some rows ∧ Src w sz S rows v vals ∧ w.ownsRow base et sz v rows.length vals.flatten := by
  obtain ⟨a, n, c, rows, vals, h1, h2, rfl, h4, h5, h6⟩ := h
  simp only [C.ev, h1, Option.some.injEq] at hv
  subst hv
  refine ⟨rows, vals, h2, ⟨h4, a, c, rfl, fun e => ?_, fun x e j u hu => ?_⟩, h5⟩
  · subst e
    rcases h5.2 with ⟨e1, e2⟩ | ⟨g', cap, cur, e1, _⟩
    · simp only [Value.slice.injEq, true_and] at e1
      exact ⟨List.eq_nil_of_length_eq_zero e2, e1.2⟩
    · simp at e1
  · subst e
    rcases h5.2 with ⟨e1, e2⟩ | ⟨g', cap, cur, e1, _⟩
    · simp at e1
    · simp only [Value.slice.injEq, Option.some.injEq, true_and] at e1
      obtain ⟨rfl, rfl⟩ := e1
      exact h5.cells rfl j u hu
theorem src_per {S : Nat → Prop} {k g et sz : Nat} (h : HOk w S base m ρ g (.per k et sz)) {v : Value} (hv : (C.hd g).ev m ρ = some v) : ∃ rows vals, ρ[k]? = some (.lst sz rows) ∧ Src w sz S rows v vals := by
  obtain ⟨a, n, c, rows, h1, h2, h3⟩ := h
  simp only [C.ev, h1, Option.some.injEq] at hv
  subst hv
  obtain ⟨rfl, hmax, hnil, hspot, vals, hR, hm⟩ := h3.list
  refine ⟨rows, vals, h2, hR, a, c, rfl, hnil, fun x e j u hu => ?_⟩
  obtain ⟨i, q, v, e1, e2, e3, e4⟩ := flatten_inv (fun v hv => (hR.row v hv).1) hu
  have hne : rows ≠ [] := by
    intro e0
    have := hR.length
    rw [e0] at this
    have h0 : vals = [] := List.eq_nil_of_length_eq_zero this
    rw [h0] at e3; simp at e3
  obtain ⟨b, off, e5, _, e6⟩ := hm hne
  rw [e] at e5
  cases e5
  rw [add_zero', e1, ← Nat.add_assoc]
  exact e6 i q v u e3 e4
theorem run_app {t ty e : Nat} {i : TypeInfo} {z : Value} (ht : P.underlying t = some (.slice e)) (hi : P.info? e = some i) (hz : i.zero = some z) (hzs : z.cells.size = i.size) (hsz : 0 < i.size) {v : Value} {n : Nat} {xs : List Value} (hown : w.ownsRow base e i.size v n xs)
    {S : Nat → Prop} {rows : List (List PD)} {x : Value} {vals : List (List Value)} (hs : Src w i.size S rows x vals) (h63 : n + rows.length ≤ maxLen) (hbytes : (n + rows.length) * i.bytes ≤ 140737488355328) (hbase : base ≤ w.heap.size) :
    ∃ v' w', (Builtin.append_ #[t, t] ty #[v, x]).run P w = .ok v' w' ∧ w'.ownsRow base e i.size v' (n + rows.length) (xs ++ vals.flatten) ∧ w.grownBy w' v.ownBlock ∧ (v'.ownBlock = v.ownBlock ∨ v'.ownBlock = some w.heap.size) := by
  obtain ⟨hR, ad, c, rfl, hnil, hcell⟩ := hs
  cases ad with
  | none =>
    obtain ⟨rfl, rfl⟩ := hnil rfl
    obtain rfl : vals = [] := List.eq_nil_of_length_eq_zero hR.length
    refine ⟨v, w, run_append_owned_none w base t ty e i i.size ht hi v n xs hown, by simpa using hown, ⟨rfl, rfl, rfl, Nat.le_refl _, fun _ _ _ => rfl⟩, .inl rfl⟩
  | some ad =>
    obtain ⟨v', w', h1, h2, h3, _, h5⟩ := run_append_own_at (P := P) w base t ty e i z i.size i.bytes ht hi hz rfl rfl hzs hsz v n xs hown ad rows.length c vals.flatten
      (by rw [flatten_length (sz := i.size) fun v hv => (hR.row v hv).1, hR.length]) (hcell ad rfl)
      (fun u hu => by obtain ⟨l, h1, h2⟩ := List.mem_flatten.1 hu; exact (hR.row l h1).2 u h2) h63 hbytes hbase
    exact ⟨v', w', h1, h2, h3, h5⟩
theorem appE_ok (hH : HR S0 base W0 hp m ρ w) (hf : ∀ g, r.nb ≤ g → g < r.nb + 64 → m g = none) (hk : ∀ c x, r.kn c = some x → c.ev ρ = some x)
    {t e : Nat} {i : TypeInfo} {z : Value} (ht : P.underlying t = some (.slice e)) (hi : P.info? e = some i) (hz : i.zero = some z) (hzs : z.cells.size = i.size) (hsz : i.size ≠ 0) (hbs : i.bytes ≠ 0)
    {v x : Value} {rows rowsx : List (List PD)} {vals valsx : List (List Value)} (hown : w.ownsRow base e i.size v rows.length vals.flatten) (hrep : RepRows w (Stab S0 base hp m w) i.size rows vals) (hs : Src w i.size (Stab S0 base hp m w) rowsx x valsx)
    {L : LE} (hL : LE.rows ρ L = some (rows ++ rowsx)) {og : Option Nat} (hog : match og with | some g => (∃ c, hp g = some c ∧ c.wr = true) ∧ ∃ a n c, m g = some (.ow a n c) ∧ v = .slice a n c | none => v = .slice none 0 0)
    (hr : ∀ v' w', (Builtin.append_ #[t, t] o.type #[v, x]).run P w = .ok v' w' → (execOp a.eval o).run P w = .ok (.value v') w') :
    EffOk P env S0 base W0 hp m ρ r a w o (appE r L e i.size i.bytes og) := by
  unfold appE
  simp only
  split
  · rename_i hkn
    have h1 := hk _ _ hkn
    have h2 : (E.nu (roomOf i.bytes : Nat)).ev ρ = some ((roomOf i.bytes : Nat) : Int) := rfl
    rw [B.le'_ev (LE.len_ev hL) h2] at h1
    simp only [Option.some.injEq, decide_eq_true_eq, List.length_append] at h1
    obtain ⟨h3, h4⟩ := roomOf_ok (k := rows.length + rowsx.length) (by omega) hbs
    obtain ⟨v', w', e1, e2, e3, e4⟩ := run_app (ty := o.type) ht hi hz hzs (by omega) hown hs h3 h4 hH.le
    have hform : ∃ a' n' c', v' = .slice a' n' c' ∧ n' = rows.length + rowsx.length := by
      rcases e2.2 with ⟨q1, q2⟩ | ⟨g', cap, cur, q1, _⟩
      · exact ⟨none, 0, 0, q1, by omega⟩
      · exact ⟨_, _, _, q1, rfl⟩
    obtain ⟨a', n', c', rfl, hn'⟩ := hform
    have hnn := hf r.nb (Nat.le_refl _) (by omega)
    have hle : Bm.le m (updM m r.nb (.ow a' n' c')) := updM_le hnn
    refine ⟨updM m r.nb (.ow a' n' c'), w', hle, fun g hg => by simp only [updM]; rw [if_neg (by omega)], ?_, .inl ⟨_, by simp [SV.ev, T1.ev, C.ev, updM], hr _ _ e1⟩⟩
    have hob : (Value.slice a' n' c').ownBlock = blkOf (some (.ow a' n' c')) := by cases a' <;> rfl
    have hXg : ∀ b, v.ownBlock = some b → ∃ g, og = some g ∧ ∃ c, hp g = some c ∧ c.wr = true ∧ blkOf (m g) = some b := fun b hb => by
      cases og with
      | none => simp only at hog; subst hog; simp [Value.ownBlock] at hb
      | some g =>
        simp only at hog
        obtain ⟨⟨c, q1, q2⟩, a0, n0, c0, q3, rfl⟩ := hog
        refine ⟨g, rfl, c, q1, q2, ?_⟩
        rw [q3]
        cases a0 with
        | none => simp [Value.ownBlock] at hb
        | some ad => simpa [Value.ownBlock, blkOf] using hb
    refine hH.upd hle (Pre.refl ρ) ⟨e3.os, e3.tape, e3.output, e3.size, fun k hk => e3.block k (Nat.lt_of_lt_of_le hk hH.le) fun e => ?_⟩ v.ownBlock (fun b hb => ?_) (fun b hb hne => e3.block b hb (Ne.symm hne)) (fun g => g = r.nb) (fun g c hc hne => ?_) (fun g c b hg hc hwr hb => ?_)
      (fun g g' c c' b h1 h2 _ _ _ _ _ _ => by rw [h1, h2]) (fun hS hW g c hg hc => ?_)
    · obtain ⟨g, _, c, q1, q2, q3⟩ := hXg k e.symm
      have := (hH.low g c k q1 q2 q3).1
      omega
    · obtain ⟨g, _, c, q1, q2, q3⟩ := hXg b hb
      exact ⟨g, c, q1, q2, q3⟩
    · simp only [updA, lk] at hc
      rw [if_neg (Ne.symm hne)] at hc
      have key : ∀ c, hp g = some c → (∀ g0, og = some g0 → g0 ≠ g) → hp g = some c ∧ (c.wr = true → ∀ b, blkOf (m g) = some b → v.ownBlock ≠ some b) := fun c hc h0 => ⟨hc, fun hwr b hb hX => by
        obtain ⟨g0, q0, c0, q1, q2, q3⟩ := hXg b hX
        exact h0 g0 q0 (hH.inj g0 g c0 c b q1 hc q2 hwr q3 hb)⟩
      cases og with
      | none => exact key c (by simpa [lk] using hc) (by simp)
      | some g0 =>
        simp only [lk] at hc
        by_cases h0 : g0 = g
        · rw [if_pos h0] at hc; cases hc
        · rw [if_neg h0] at hc
          exact key c hc (by simp only [Option.some.injEq]; rintro _ rfl; exact h0)
    · subst hg
      simp only [updM, if_pos] at hb
      rw [← hob] at hb
      have hlt := (e2.lt b hb).2
      rcases e4 with e4 | e4
      · exact ⟨.inr (by rw [← e4]; exact hb), hlt⟩
      · rw [hb] at e4; cases e4; exact ⟨.inl (Nat.le_refl _), hlt⟩
    · subst hg
      simp only [updA, lk, if_pos, Option.some.injEq] at hc
      subst hc
      refine ⟨a', n', c', rows ++ rowsx, vals ++ valsx, by simp [updM], hL, by simp [hn'], (hrep.append hs.rep).mono hS hW, ?_, hsz⟩
      rw [hn']
      simpa [hn'] using e2
  · trivial
  · trivial

theorem pt_ev {g off : Nat} {v : Value} (h : (C.pt g off).ev m ρ = some v) : ∃ b, m g = some (.bk b) ∧ v = .pointer (some ⟨b, off, none⟩) := by
  simp only [C.ev] at h
  split at h
  · rename_i b hb; cases h; exact ⟨b, hb, rfl⟩
  · cases h
theorem hd_ev {g : Nat} {v : Value} (h : (C.hd g).ev m ρ = some v) : ∃ a n c, m g = some (.ow a n c) ∧ v = .slice a n c := by
  simp only [C.ev] at h
  split at h
  · rename_i a n c hb; cases h; exact ⟨a, n, c, hb, rfl⟩
  · cases h
theorem ep_ev {g sz off : Nat} {i : E} {v : Value} (h : (C.ep g i sz off).ev m ρ = some v) : ∃ b o n c j, m g = some (.ow (some ⟨b, o, none⟩) n c) ∧ i.ev ρ = some j ∧ v = .pointer (some ⟨b, o + j.toNat * sz + off, none⟩) := by
  simp only [C.ev, epV] at h
  split at h
  · rename_i b o n c j h1 h2; cases h; exact ⟨b, o, n, c, j, h1, h2, rfl⟩
  · cases h
theorem HOk.addr {S : Nat → Prop} {g n c : Nat} {x : Option Addr} {h : HC} {e : E} (hk : HOk w S base m ρ g h) (he : h.len = some e) (hm : m g = some (.ow x n c)) (hn : 0 < n) : ∃ b off, x = some ⟨b, off, none⟩ := by
  cases h with
  | blk cs t => cases he
  | own L et sz =>
    obtain ⟨a, n', c', rows, vals, h1, h2, rfl, h4, h5, h6⟩ := hk
    rw [hm] at h1
    cases h1
    rcases h5.2 with ⟨e1, e2⟩ | ⟨g', cap, cur, e1, _⟩
    · omega
    · cases e1; exact ⟨_, _, rfl⟩
  | per k et sz =>
    obtain ⟨a, n', c', rows, h1, h2, h3⟩ := hk
    rw [hm] at h1
    cases h1
    obtain ⟨rfl, _, _, _, vals, _, h5⟩ := h3.list
    obtain ⟨b, off, h6, _⟩ := h5 (by intro e0; rw [e0] at hn; simp at hn)
    exact ⟨b, off, h6⟩
def chunksV (sz : Nat) : Nat → List Value → List (List Value)
  | 0, _ => []
  | n + 1, l => l.take sz :: chunksV sz n (l.drop sz)
theorem chunks_length (sz : Nat) : ∀ (n : Nat) (l : List C), (chunks sz n l).length = n
  | 0, _ => rfl
  | n + 1, l => by simp [chunks, chunks_length sz n]
theorem chunksV_length (sz : Nat) : ∀ (n : Nat) (l : List Value), (chunksV sz n l).length = n
  | 0, _ => rfl
  | n + 1, l => by simp [chunksV, chunksV_length sz n]
theorem chunksV_flatten {sz : Nat} : ∀ {n : Nat} {l : List Value}, l.length = n * sz → (chunksV sz n l).flatten = l
  | 0, l, h => by
    simp only [Nat.zero_mul] at h
    rw [List.eq_nil_of_length_eq_zero h]; rfl
  | n + 1, l, h => by
    simp only [chunksV, List.flatten_cons]
    rw [chunksV_flatten (by rw [List.length_drop, h, Nat.add_mul]; omega), List.take_append_drop]
theorem chunks_ev {sz : Nat} : ∀ {n : Nat} {cs : List C} {us : List Value}, evs m ρ cs = some us → ∀ (i : Nat) r v, (chunks sz n cs)[i]? = some r → (chunksV sz n us)[i]? = some v → evs m ρ r = some v
  | 0, cs, us, h, i, r, v, hr, hv => by simp [chunks] at hr
  | n + 1, cs, us, h, 0, r, v, hr, hv => by
    simp [chunks, chunksV] at hr hv
    subst hr hv
    exact evs_take sz h
  | n + 1, cs, us, h, i + 1, r, v, hr, hv => chunks_ev (evs_drop sz h) i r v (by simpa [chunks] using hr) (by simpa [chunksV] using hv)
theorem fill_len {place : Nat → Option (Nat × Nat)} : ∀ {ps : List (Nat × List C)} {zs cs : List C}, fillC place zs ps = some cs → cs.length = zs.length
  | [], zs, cs, h => by simp only [fillC, Option.some.injEq] at h; rw [h]
  | (i, ds) :: rest, zs, cs, h => by
    simp only [fillC] at h
    split at h
    · cases h
    · split at h
      · cases h
      · rename_i hc
        have := fill_len h
        simp at this
        omega
theorem opm_ok (hH : HR S0 base W0 hp m ρ w) {x : Operand} (hx : OpOk m ρ r a x) (he : ∀ w : World, (execOp a.eval o).run P w = .ok (.value (a.eval x)) w) : EffOk P env S0 base W0 hp m ρ r a w o (opm r x) := by
  unfold opm
  split
  · trivial
  · rename_i v hv
    exact effv hH (a.eval x) (hx hv) (he w)
theorem binE_ok (hH : HR S0 base W0 hp m ρ w) (hk : ∀ c x, r.kn c = some x → c.ev ρ = some x) {op : BinOp} {x y : E} {n k : Int} (hx : x.ev ρ = some n) (hy : y.ev ρ = some k) (t : TypeId) (o1 o2 : Operand) (o : Oper)
    (he : execOp a.eval o = (do pure (.value (← (do eqGuard op t o1 o2 (.int .i64 n) (.int .i64 k); binOp op t (.int .i64 n) (.int .i64 k)))))) : EffOk P env S0 base W0 hp m ρ r a w o (binE r.kn op x y) := by
  have hg : ∀ w : World, (eqGuard op t o1 o2 (.int .i64 n) (.int .i64 k)).run P w = .ok () w := by intro w; unfold eqGuard; split <;> simp
  have hz : (E.nu 0).ev ρ = some (0 : Int) := rfl
  have key : ∀ (v : Value) (sv : SV), sv.ev m ρ = some v → (binOp op t (.int .i64 n) (.int .i64 k)).run P w = .ok v w → EffOk P env S0 base W0 hp m ρ r a w o (.val sv) := by
    intro v sv h1 h2
    refine effv hH v h1 ?_
    rw [he]
    simp [Sem.run_bind, hg, h2]
  have ce : ∀ {e : E} {z : Int}, e.ev ρ = some z → (SV.one (.ce (.ex e))).ev m ρ = some (.int .i64 z) := by intro e z h; simp [SV.ev, T1.ev, C.ev, h]
  have cb : ∀ {e : B} {z : Bool}, e.ev ρ = some z → (SV.one (.ce (.bo e))).ev m ρ = some (.bool z) := by intro e z h; simp [SV.ev, T1.ev, C.ev, h]
  cases op
  case add => exact key _ _ (ce (E.add'_ev hx hy)) (by simp [binOp, Op.intArith, i64w])
  case sub => exact key _ _ (ce (E.sub'_ev hx hy)) (by simp [binOp, Op.intArith, i64w])
  case mul => exact key _ _ (ce (E.mul'_ev hx hy)) (by simp [binOp, Op.intArith, i64w])
  case and => exact key _ _ (ce (E.and'_ev hx hy)) (by simp [binOp, Op.intBits]; rfl)
  case or => exact key _ _ (ce (E.or'_ev hx hy)) (by simp [binOp, Op.intBits]; rfl)
  case xor => exact key _ _ (ce (E.xor'_ev hx hy)) (by simp [binOp, Op.intBits]; rfl)
  case eql => exact key _ _ (cb (B.eq'_ev hx hy)) (by simp [binOp, Op.intCmp])
  case neq => exact key _ _ (cb (B.not'_ev (B.eq'_ev hx hy))) (by simp [binOp, Op.intCmp, bne])
  case lss => exact key _ _ (cb (B.lt'_ev hx hy)) (by simp [binOp, Op.intCmp])
  case leq => exact key _ _ (cb (B.le'_ev hx hy)) (by simp [binOp, Op.intCmp])
  case gtr => exact key _ _ (cb (B.lt'_ev hy hx)) (by simp [binOp, Op.intCmp])
  case geq => exact key _ _ (cb (B.le'_ev hy hx)) (by simp [binOp, Op.intCmp])
  case quo =>
    simp only [binE]
    cases hkn : r.kn (B.eq' y (.nu 0)) with
    | none => trivial
    | some b =>
      cases b
      · have h1 := hk _ _ hkn
        rw [B.eq'_ev hy hz] at h1
        have h0 : k ≠ 0 := by intro h; subst h; simp at h1
        exact key _ _ (ce (E.quo'_ev hx hy)) (by simp [binOp, Op.intDiv, h0, i64w])
      · trivial
  case rem =>
    simp only [binE]
    cases hkn : r.kn (B.eq' y (.nu 0)) with
    | none => trivial
    | some b =>
      cases b
      · have h1 := hk _ _ hkn
        rw [B.eq'_ev hy hz] at h1
        have h0 : k ≠ 0 := by intro h; subst h; simp at h1
        exact key _ _ (ce (E.rem'_ev hx hy)) (by simp [binOp, Op.intDiv, h0])
      · trivial
  case shr =>
    simp only [binE]
    split
    · rename_i j
      split
      · rename_i hj
        simp only [E.ev, Option.some.injEq] at hy
        subst hy
        refine key _ _ (ce (E.shr'_ev j.toNat hx)) ?_
        have h1 : ¬ j < 0 := by omega
        have h2 : min j.toNat 64 = j.toNat := by omega
        simp [binOp, Op.shift, h1, IntKind.bits, h2]
      · trivial
    · trivial
  all_goals trivial
/-! a slice of a slice -/
theorem RepRows.take {S : Nat → Prop} {sz : Nat} : ∀ {ps : List (List PD)} {vs : List (List Value)} (k : Nat), RepRows w S sz ps vs → RepRows w S sz (ps.take k) (vs.take k)
  | [], [], k, _ => by simp [RepRows]
  | p :: ps, v :: vs, 0, h => by simp [RepRows]
  | p :: ps, v :: vs, k + 1, h => ⟨h.1, RepRows.take k h.2⟩
  | [], _ :: _, _, h => h.elim
  | _ :: _, [], _, h => h.elim
theorem RepRows.drop {S : Nat → Prop} {sz : Nat} : ∀ {ps : List (List PD)} {vs : List (List Value)} (k : Nat), RepRows w S sz ps vs → RepRows w S sz (ps.drop k) (vs.drop k)
  | [], [], k, _ => by simp [RepRows]
  | p :: ps, v :: vs, 0, h => h
  | p :: ps, v :: vs, k + 1, h => RepRows.drop k h.2
  | [], _ :: _, _, h => h.elim
  | _ :: _, [], _, h => h.elim
theorem Rep.sliced {S : Nat → Prop} {sz : Nat} {rows : List (List PD)} {ad : Option Addr} {k c : Nat} (h : Rep w S (.lst sz rows) (.slice ad k c)) {l hi mx : Nat} (h1 : l ≤ hi) (h2 : hi ≤ k) (h3 : hi ≤ mx) (h4 : mx ≤ c) :
    Rep w S (.lst sz ((rows.take hi).drop l)) (Go.sliced ad l hi mx sz) := by
  obtain ⟨e1, e2, e3, e4, vals, e5, e6⟩ := h.list
  subst e1
  have hlen : ((rows.take hi).drop l).length = hi - l := by rw [List.length_drop, List.length_take]; omega
  unfold Go.sliced
  rw [← hlen]
  have hne : (rows.take hi).drop l ≠ [] → l < hi ∧ rows ≠ [] := fun hn => by
    refine ⟨?_, fun e => hn (by rw [e]; simp)⟩
    rcases Nat.lt_or_ge l hi with g | g
    · exact g
    · exact absurd (List.eq_nil_of_length_eq_zero (by rw [hlen]; omega)) hn
  refine Rep.of_list (by rw [hlen]; omega) (by rw [hlen]; omega) (fun hnone => ?_) (fun hn x hx => ?_) ((e5.take hi).drop l) (fun hn => ?_)
  · have ha : ad = none := by
      split at hnone
      · exact hnone
      · cases ad with
        | none => rfl
        | some x => simp at hnone
    obtain ⟨g1, g2⟩ := e3 ha
    refine ⟨by rw [g1]; simp, by omega⟩
  · obtain ⟨g1, g2⟩ := hne hn
    obtain ⟨b, off, e7, _⟩ := e6 g2
    subst e7
    rw [if_neg (by omega)] at hx
    simp only [Option.map_some, Option.some.injEq] at hx
    rw [← hx, add_zero']
  · obtain ⟨g1, g2⟩ := hne hn
    obtain ⟨b, off, e7, e8, e9⟩ := e6 g2
    subst e7
    refine ⟨b, off + l * sz, ?_, e8, fun i j v x hv hx => ?_⟩
    · rw [if_neg (by omega), Option.map_some, add_zero']
    · rw [List.getElem?_drop, List.getElem?_take] at hv
      split at hv
      · rw [show off + l * sz + i * sz + j = off + (l + i) * sz + j by rw [Nat.add_mul]; omega]
        exact e9 (l + i) j v x hv hx
      · cases hv
theorem elem_of {t e : TypeId} (hu : P.underlying t = some (.slice e)) : P.elem t = e := by simp [Program.elem, hu]
theorem chkB_ok {kn : B → Option Bool} (hk : ∀ c x, kn c = some x → c.ev ρ = some x) : ∀ {cs : List B}, chkB kn cs = some none → ∀ c ∈ cs, c.ev ρ = some true
  | [], _, c, hc => by simp at hc
  | c :: cs, h, d, hd => by
    simp only [chkB] at h
    split at h
    · rename_i hc
      rcases List.mem_cons.1 hd with rfl | hd
      · exact hk _ _ hc
      · exact chkB_ok hk h d hd
    · cases h
    · cases h
theorem le'_true {x y : E} {u v : Int} (hx : x.ev ρ = some u) (hy : y.ev ρ = some v) (h : (B.le' x y).ev ρ = some true) : u ≤ v := by
  rw [B.le'_ev hx hy] at h
  simpa using h
abbrev FnE := Nat → List PD → Option (List PD)
def CmOk (F : FnE) (l : List (Nat × List PC × Nat)) (ρ : List PD) : Prop := ∀ f pcs k0, (f, pcs, k0) ∈ l → ∃ ps r, pds ρ pcs = some ps ∧ F f ps = some r ∧ At ρ k0 r
def SubF (F : FnE) : Prop := ∀ et ps r, F (3000000 + et) ps = some r → drApp et ps = some r
theorem lkCall_mem {f : Nat} {pcs : List PC} {k : Nat} : ∀ {l : List (Nat × List PC × Nat)}, lkCall f pcs l = some k → (f, pcs, k) ∈ l
  | [], h => by simp [lkCall] at h
  | (g, as, y) :: l, h => by
    simp only [lkCall] at h
    split at h
    · rename_i e; cases h; rw [← e.1, ← pcsSame_eq e.2]; simp
    · exact List.mem_cons_of_mem _ (lkCall_mem h)
theorem optE_ok {d e : E} {y : Option Operand} (ht : ∀ x ∈ y, OpOk m ρ r a x) (h : optE r d y = some e) {v : Int} (hv : e.ev ρ = some v) : (y = none ∧ e = d) ∨ ∃ z, y = some z ∧ a.eval z = .int .i64 v := by
  unfold optE at h
  split at h
  · cases h; exact .inl ⟨rfl, rfl⟩
  · rename_i z
    split at h
    · rename_i e' he
      cases h
      have := opc_ok (ht z rfl) he
      simp only [C.ev, hv, Option.map_some, Option.some.injEq] at this
      exact .inr ⟨z, rfl, this.symm⟩
    · cases h
/-- What a slicing runs to. -/
theorem sliceRun {t e : TypeId} {i : TypeInfo} {sz : Nat} (hu : P.underlying t = some (.slice e)) (hinf : P.info? e = some i) (his : i.size = sz) {ad : Option Addr} {nn c : Nat} {x : Operand} (hxv : a.eval x = .slice ad nn c)
    {lo hi : Option Operand} {lv hv : Int} (hl : (lo = none ∧ lv = 0) ∨ ∃ z, lo = some z ∧ a.eval z = .int .i64 lv) (hh : (hi = none ∧ hv = nn) ∨ ∃ z, hi = some z ∧ a.eval z = .int .i64 hv) (h0 : 0 ≤ lv) (h1 : lv ≤ hv) (h2 : hv ≤ nn) (hcap : nn ≤ c) :
    (Instr.sliceAt t (a.eval x) (lo.map a.eval) (hi.map a.eval) none).run P w = .ok (Go.sliced ad lv.toNat hv.toNat c sz) w := by
  have hel := elem_of hu
  have hsz' : ∀ w : World, (Go.sizeOf e).run P w = .ok sz w := fun w => by rw [run_sizeOf' hinf w, his]
  have hue : P.underlying t = some (.slice (P.elem t)) := by rw [hel]; exact hu
  rw [hxv]
  rcases hl with ⟨rfl, rfl⟩ | ⟨y, rfl, hy⟩ <;> rcases hh with ⟨rfl, rfl⟩ | ⟨z, rfl, hz'⟩
  · simp [Sem.run_bind, run_sliceAt_slice _ t _ _ _ _ hue, run_slice_all _ t ad nn c hue, hel, hsz', Result.andThen]
  · simp [Sem.run_bind, run_sliceAt_slice _ t _ _ _ _ hue, hz', run_slice_h _ t ad nn c hue .i64 hv (by omega) (by omega), hel, hsz', Result.andThen]
  · simp [Sem.run_bind, run_sliceAt_slice _ t _ _ _ _ hue, hy, run_slice_l _ t ad nn c hue .i64 lv h0 (by omega), hel, hsz', Result.andThen]
  · simp [Sem.run_bind, run_sliceAt_slice _ t _ _ _ _ hue, hy, hz', run_slice_lh _ t ad nn c hue .i64 .i64 lv hv h0 h1 (by omega), hel, hsz', Result.andThen]
set_option maxHeartbeats 8000000 in
theorem step_sound {F : FnE} (hE : EnvOk P env) (hSF : SubF F) (hcm : CmOk F r.cm ρ) (hk : ∀ c x, r.kn c = some x → c.ev ρ = some x) (hg : GmOk r.gm ρ) (hH : HR S0 base W0 hp m ρ w) (hv : ∀ g c, r.hp g = some c → hp g = some c) (hf : ∀ g, r.nb ≤ g → g < r.nb + 64 → m g = none)
    (o : Oper) (hx : ∀ x ∈ opnds o.op, OpOk m ρ r a x) : EffOk P env S0 base W0 hp m ρ r a w o (step env r o.op) := by
  have hps : ∀ g c, r.hp g = some c → HOk w (Stab S0 base hp m w) base m ρ g c := fun g c h => hH.hps g c (hv g c h)
  obtain ⟨dst, op, type, pos, after, guard⟩ := o
  cases op with
  | move x => exact opm_ok hH (hx x (by simp [opnds])) (fun w => rfl)
  | assign x => exact opm_ok hH (hx x (by simp [opnds])) (fun w => rfl)
  | pick c x y =>
    simp only [step]
    split
    · rename_i b hb
      have hc := opc_ok (hx c (by simp [opnds])) hb
      simp only [C.ev, Option.map_eq_some_iff] at hc
      obtain ⟨t, ht, hct⟩ := hc
      split
      · rename_i h1
        have := hk _ _ h1
        rw [ht] at this
        cases this
        refine opm_ok hH (hx x (by simp [opnds])) (fun w => ?_)
        simp [execOp, ← hct, asBool]
      · rename_i h1
        have := hk _ _ h1
        rw [ht] at this
        cases this
        refine opm_ok hH (hx y (by simp [opnds])) (fun w => ?_)
        simp [execOp, ← hct, asBool]
      · trivial
    · trivial
  | alloc t =>
    simp only [step]
    split
    · rename_i d hd
      split
      · rename_i cs hcs
        obtain ⟨_, i, hi, hz, _⟩ := hE.tys _ _ hd
        refine eff_alloc hH hf (liftCs_ev hcs) ?_
        simp [execOp, Instr.alloc, Sem.run_bind, run_zero' hi hz, newVar, newRow]
      · trivial
    · trivial
  | box t x =>
    simp only [step]
    split
    · rename_i cs hcs
      refine eff_alloc hH hf (opl_ok (hx x (by simp [opnds])) hcs) ?_
      simp [execOp, Instr.box, newVar, newRow]
    · trivial
  | build t parts =>
    simp only [step]
    split
    · rename_i d hd
      obtain ⟨hu, i, hi, hz, hs, hbs⟩ := hE.tys _ _ hd
      split
      · rename_i zs ps hzs hps
        obtain ⟨hl, hp⟩ := opls_ok (fun q hq => hx q.2 (by simp only [opnds]; exact List.mem_map_of_mem hq)) hps
        have hp' : ∀ (j k : Nat) (ds : List C), ps[j]? = some (k, ds) → ∃ u, (parts.toList.map fun q => (q.1, a.eval q.2))[j]? = some (k, u) ∧ evs m ρ ds = some u.cells.toList := by
          intro j k ds hj
          obtain ⟨x, h1, h2⟩ := hp j k ds hj
          exact ⟨a.eval x, by rw [List.getElem?_map, h1]; rfl, h2⟩
        split
        · rename_i fs hfs
          split
          · rename_i pl hpl
            split
            · rename_i cs hcs
              obtain ⟨us, h1, h2⟩ := fill_ok (xs := parts.toList.map fun q => (q.1, a.eval q.2)) (liftCs_ev hzs) (by simpa using hl) hp' hcs
              refine effv hH (.agg us.toArray) (by simp [SV.ev, T1.ev, h1]) ?_
              rw [hfs] at hu
              have hpr := mapM_toList (fun f : Field => do pure (f.offset, ← Go.sizeOf f.type)) fs w (placesD_ok hE w hpl)
              simp only [execOp, Instr.build, Sem.run_bind, run_zero' hi hz, run_underlying hu, Result.andThen_ok, hpr, Array.toList_map]
              simp only [List.getElem?_toArray, Array.toArray_toList] at h2 ⊢
              rw [h2]
              rfl
            · trivial
          · trivial
        · rename_i n e hfs
          split
          · rename_i de hde
            obtain ⟨hue, ie, hie, hze, hse, hbe⟩ := hE.tys _ _ hde
            split
            · rename_i cs hcs
              obtain ⟨us, h1, h2⟩ := fill_ok (xs := parts.toList.map fun q => (q.1, a.eval q.2)) (liftCs_ev hzs) (by simpa using hl) hp' hcs
              refine effv hH (.agg us.toArray) (by simp [SV.ev, T1.ev, h1]) ?_
              rw [hfs] at hu
              simp only [execOp, Instr.build, Sem.run_bind, run_zero' hi hz, run_underlying hu, Result.andThen_ok, run_sizeOf' hie, hse, Array.toList_map]
              simp only [Array.toArray_toList] at h2 ⊢
              rw [h2]
              rfl
            · trivial
          · trivial
        · trivial
      · trivial
    · trivial
  | load t x =>
    simp only [step]
    split
    · rename_i g off d hx1 hd
      obtain ⟨b, hb, hct⟩ := pt_ev (opc_ok (hx x (by simp [opnds])) hx1)
      obtain ⟨hu, i, hi, hz, hs, hbs⟩ := hE.tys _ _ hd
      split
      · rename_i cs ty hcs
        obtain ⟨b', vs, hb', hvs, hw⟩ := hps g _ hcs
        obtain rfl : b' = b := by rw [hb] at hb'; cases hb'; rfl
        have hlen := evs_length hvs
        split
        · rename_i hag
          split
          · rename_i hle
            have hle' : off + i.size ≤ vs.toArray.size := by simp; omega
            have h3 := run_load_agg (P := P) (t := t) hu hi hag hw hle'
            rw [hs] at h3
            refine effv hH (.agg ((vs.drop off).take d.sz).toArray) (by simp only [SV.ev, T1.ev, evs_take _ (evs_drop _ hvs), Option.map_some]) ?_
            simp only [execOp, hct, Sem.run_bind]
            rw [h3]
            rfl
          · trivial
        · rename_i hag
          split
          · rename_i c hc
            obtain ⟨v, hv, hcv⟩ := evs_get hvs hc
            refine effv hH v hcv ?_
            simp only [execOp, hct, Sem.run_bind, run_load_one hu (by simpa using hag) hw (by simpa using hv), Result.andThen_ok, Sem.run_pure]
          · trivial
      · trivial
    · rename_i g ix sz off d hx1 hd
      obtain ⟨b, o, n, c, j, hb, hj, hct⟩ := ep_ev (opc_ok (hx x (by simp [opnds])) hx1)
      obtain ⟨hu, i, hi, hz, hs, hbs⟩ := hE.tys _ _ hd
      split
      · rename_i k et sz' hcs
        split
        · rename_i hsz
          obtain ⟨rfl, hle, h64⟩ := hsz
          split
          · rename_i k0 ks hgm
            split
            · rename_i hks
              obtain ⟨a', n', c', rows, e1, e2, e3⟩ := hps g _ hcs
              rw [hb] at e1
              cases e1
              obtain ⟨sz2, rows2, iv, row, e4, e5, e6, e7, e8⟩ := hg k ix k0 ks (lkGet_mem hgm)
              rw [e2] at e4
              cases e4
              rw [hj] at e5
              cases e5
              obtain ⟨_, _, _, _, vals, e9, e10⟩ := e3.list
              have hlt : j.toNat < vals.length := by rw [e9.length]; exact (List.getElem?_eq_some_iff.1 e6).1
              obtain ⟨e11, e12⟩ := e9.get e6 (List.getElem?_eq_getElem hlt)
              obtain ⟨b2, o2, e13, _, e14⟩ := e10 (by intro e0; rw [e0] at e6; simp at e6)
              cases e13
              obtain ⟨q1, q2, q3, q4⟩ := eff_news hH (by omega) hf e8 e12 e7
              have hvl : (vals[j.toNat]).length = sz' := (e9.row _ (List.getElem_mem hlt)).1
              have hcell : ∀ (p : Nat) v, ((vals[j.toNat].drop off).take d.sz)[p]? = some v → w.cell? ((⟨b, o + j.toNat * sz' + off, none⟩ : Addr).add p) = some v := by
                intro p v hv
                have hp : p < d.sz := by have := (List.getElem?_eq_some_iff.1 hv).1; simp at this; omega
                rw [List.getElem?_take_of_lt hp, List.getElem?_drop] at hv
                rw [add_zero', Nat.add_assoc]
                exact e14 j.toNat (off + p) _ v (List.getElem?_eq_getElem hlt) hv
              have hll : ((vals[j.toNat].drop off).take d.sz).length = d.sz := by simp; omega
              split
              · rename_i hag
                have hL := run_loadCells_list (P := P) w ⟨b, o + j.toNat * sz' + off, none⟩ _ hcell
                rw [hll] at hL
                refine ⟨_, w, q1, q2, q3, .inl ⟨.agg ((vals[j.toNat].drop off).take d.sz).toArray, by simp only [SV.ev, T1.ev, evs_take _ (evs_drop _ q4), Option.map_some], ?_⟩⟩
                simp [execOp, hct, Instr.loadAt, Instr.sureAddr, loadVar, Sem.run_bind, run_isAgg' hu, hag, run_sizeOf' hi, hs, hL]
              · rename_i hag
                split
                · rename_i cc hcc
                  split
                  · rename_i hd1
                    obtain ⟨v, hv, hcv⟩ := evs_get q4 hcc
                    refine ⟨_, w, q1, q2, q3, .inl ⟨v, hcv, ?_⟩⟩
                    have hce : w.cell? ⟨b, o + j.toNat * sz' + off, none⟩ = some v := by
                      have := hcell 0 v (by rw [List.getElem?_take_of_lt (by omega), List.getElem?_drop]; simpa using hv)
                      simpa [Addr.add] using this
                    have hag' : isAggD d.desc = false := by simpa using hag
                    simp [execOp, hct, Instr.loadAt, Instr.sureAddr, loadVar, Sem.run_bind, run_isAgg' hu, hag', hce]
                  · trivial
                · trivial
            · trivial
          · split <;> trivial
        · trivial
      · rename_i k et sz' hcs
        split
        · rename_i hsz
          obtain ⟨rfl, hle, h64⟩ := hsz
          split
          · rename_i k0 ks hgm
            split
            · rename_i hks
              obtain ⟨a', n', c', rows, vals, e1, e2, e3, e9, e10, _⟩ := hps g _ hcs
              rw [hb] at e1
              cases e1
              obtain ⟨sz2, rows2, iv, row, e4, e5, e6, e7, e8⟩ := hg k ix k0 ks (lkGet_mem hgm)
              simp only [LE.rows, e4, Option.map_some, List.append_nil, Option.some.injEq] at e2
              subst e2
              rw [hj] at e5
              cases e5
              have hlt : j.toNat < vals.length := by rw [e9.length]; exact (List.getElem?_eq_some_iff.1 e6).1
              obtain ⟨e11, e12⟩ := e9.get e6 (List.getElem?_eq_getElem hlt)
              obtain ⟨q1, q2, q3, q4⟩ := eff_news hH (by omega) hf e8 e12 e7
              have hvl : (vals[j.toNat]).length = sz' := (e9.row _ (List.getElem_mem hlt)).1
              have hcell : ∀ (p : Nat) v, ((vals[j.toNat].drop off).take d.sz)[p]? = some v → w.cell? ((⟨b, o + j.toNat * sz' + off, none⟩ : Addr).add p) = some v := by
                intro p v hv
                have hp : p < d.sz := by have := (List.getElem?_eq_some_iff.1 hv).1; simp at this; omega
                rw [List.getElem?_take_of_lt hp, List.getElem?_drop] at hv
                have ho2 : o = 0 := by
                  rcases e10.2 with ⟨g1, _⟩ | ⟨g', cap, cur, g1, _⟩
                  · cases g1
                  · cases g1; rfl
                subst ho2
                have h1 := flatten_get (fun v hv => (e9.row v hv).1) (List.getElem?_eq_getElem hlt) hv
                have h2 := (List.getElem?_eq_some_iff.1 h1).1
                rw [e10.1] at h2
                rw [add_zero', Nat.zero_add, Nat.add_assoc, e10.cellAt _ h2]
                exact h1
              have hll : ((vals[j.toNat].drop off).take d.sz).length = d.sz := by simp; omega
              split
              · rename_i hag
                have hL := run_loadCells_list (P := P) w ⟨b, o + j.toNat * sz' + off, none⟩ _ hcell
                rw [hll] at hL
                refine ⟨_, w, q1, q2, q3, .inl ⟨.agg ((vals[j.toNat].drop off).take d.sz).toArray, by simp only [SV.ev, T1.ev, evs_take _ (evs_drop _ q4), Option.map_some], ?_⟩⟩
                simp [execOp, hct, Instr.loadAt, Instr.sureAddr, loadVar, Sem.run_bind, run_isAgg' hu, hag, run_sizeOf' hi, hs, hL]
              · rename_i hag
                split
                · rename_i cc hcc
                  split
                  · rename_i hd1
                    obtain ⟨v, hv, hcv⟩ := evs_get q4 hcc
                    refine ⟨_, w, q1, q2, q3, .inl ⟨v, hcv, ?_⟩⟩
                    have hce : w.cell? ⟨b, o + j.toNat * sz' + off, none⟩ = some v := by
                      have := hcell 0 v (by rw [List.getElem?_take_of_lt (by omega), List.getElem?_drop]; simpa using hv)
                      simpa [Addr.add] using this
                    have hag' : isAggD d.desc = false := by simpa using hag
                    simp [execOp, hct, Instr.loadAt, Instr.sureAddr, loadVar, Sem.run_bind, run_isAgg' hu, hag', hce]
                  · trivial
                · trivial
            · trivial
          · split <;> trivial
        · trivial
      · trivial
      · trivial
    · trivial
  | store t x y =>
    simp only [step]
    split
    · rename_i g off vs d hx1 hy1 hd
      obtain ⟨b, hb, hct⟩ := pt_ev (opc_ok (hx x (by simp [opnds])) hx1)
      have hv' := opl_ok (hx y (by simp [opnds])) hy1
      obtain ⟨hu, i, hi, hz, hs, hbs⟩ := hE.tys _ _ hd
      split
      · rename_i cs ty hcs
        obtain ⟨b', us, hb', hvs, hw⟩ := hps g _ hcs
        obtain rfl : b' = b := by rw [hb] at hb'; cases hb'; rfl
        have hlen := evs_length hvs
        have hvl := evs_length hv'
        split
        · rename_i hle
          simp at hvl
          have h1 := evs_one hv'
          have h2 : off + (a.eval y).cells.size ≤ us.toArray.size := by simp; omega
          have h3 := run_store_at (P := P) (v := a.eval y) hi hw (by omega) h2 h1
          have hgl := hH.low g _ b' (hv g _ hcs) rfl (by rw [hb]; rfl)
          refine ⟨m, _, Bm.le_refl m, fun _ _ => rfl, ?_, .inr ⟨rfl, by simp only [execOp, hct, Sem.run_bind, h3, Result.andThen_ok, Sem.run_pure]; rfl⟩⟩
          refine hH.upd (Bm.le_refl m) (Pre.refl ρ) ⟨rfl, rfl, rfl, by simp [World.setRow], fun k hk => setRow_other w b' k _ (by omega)⟩ (some b') (fun b2 hb2 => ⟨g, _, hv g _ hcs, rfl, by rw [hb]; simpa [blkOf] using hb2⟩) (fun k hk hne => setRow_other w b' k _ (fun e => hne (by rw [e]))) (fun g' => g' = g) (fun g' c hc hne => ?_) (fun g' c b2 hg' hc _ hb2 => ?_) (fun g' g'' c c' b h1 h2 _ _ _ _ _ _ => by rw [h1, h2]) (fun hS hW g' c hg' hc => ?_)
          · simp only [updA, lk] at hc
            rw [if_neg (Ne.symm hne)] at hc
            refine ⟨hc, fun hwr b2 hb2 he => hne ?_⟩
            simp only [Option.some.injEq] at he
            subst he
            exact hH.inj g' g c _ b' hc (hv g _ hcs) hwr rfl hb2 (by rw [hb]; rfl)
          · subst hg'
            rw [hb] at hb2
            simp only [blkOf, Option.some.injEq] at hb2
            subst hb2
            exact ⟨.inr rfl, by simpa [World.setRow] using hgl.2⟩
          · subst hg'
            simp only [updA, lk, if_pos, Option.some.injEq] at hc
            subst hc
            refine ⟨b', _, hb, evs_append (evs_append (evs_take off hvs) hv') (evs_drop _ hvs), ?_⟩
            rw [setRow_heap w b' us.toArray _ _ _ hw]
            simp [hvl]
        · trivial
      · trivial
    · trivial
  | nilCheck x =>
    simp only [step]
    split
    · rename_i g off hx1
      have hc := opc_ok (hx x (by simp [opnds])) hx1
      refine effv hH (a.eval x) hc ?_
      obtain ⟨b, hb, hct⟩ := pt_ev hc
      simp [execOp, hct]
    · rename_i g ix sz off hx1
      have hc := opc_ok (hx x (by simp [opnds])) hx1
      refine effv hH (a.eval x) hc ?_
      obtain ⟨b, o, n, c, j, hb, hj, hct⟩ := ep_ev hc
      simp [execOp, hct]
    · trivial
  | binOp bop t x y yt =>
    simp only [step]
    split
    · rename_i n e1 h1 h2
      have hx1 := opc_ok (hx x (by simp [opnds])) h2
      simp only [C.ev, Option.map_eq_some_iff] at hx1
      obtain ⟨q, hq, hxe⟩ := hx1
      unfold shrOf at h1
      split at h1
      · rename_i k j
        split at h1
        · rename_i hj
          cases h1
          refine effv hH (.int .i64 (q / 2 ^ j.toNat)) (by simp [SV.ev, T1.ev, C.ev, E.shr'_ev j.toNat hq]) ?_
          simp only [execOp, ← hxe]
          have hg : (eqGuard .shr t x (.const (.int k j)) (.int .i64 q) (.int k j)).run P w = .ok () w := by unfold eqGuard; simp
          have h3 : ¬ j < 0 := by omega
          have h4 : min j.toNat 64 = j.toNat := by omega
          have hb : (binOp .shr t (.int .i64 q) (.int k j)).run P w = .ok (.int .i64 (q / 2 ^ j.toNat)) w := by simp [binOp, Op.shift, h3, IntKind.bits, h4]
          show ((do pure (Next.value (← (do eqGuard .shr t x (.const (.int k j)) (.int .i64 q) (.int k j); binOp .shr t (.int .i64 q) (.int k j))))) : Sem Next).run P w = _
          simp [Sem.run_bind, hg, hb]
        · cases h1
      · cases h1
    split
    · rename_i e1 e2 h1 h2
      have hx1 := op1_ok (hx x (by simp [opnds])) h1
      have hy1 := op1_ok (hx y (by simp [opnds])) h2
      simp only [T1.ev, C.ev, Option.map_eq_some_iff] at hx1 hy1
      obtain ⟨n, hn, hxe⟩ := hx1
      obtain ⟨k, hk1, hye⟩ := hy1
      refine binE_ok hH hk hn hk1 t x y _ ?_
      simp only [execOp, ← hxe, ← hye]
    · rename_i e1 e2 h1 h2
      have hx1 := op1_ok (hx x (by simp [opnds])) h1
      have hy1 := op1_ok (hx y (by simp [opnds])) h2
      simp only [T1.ev, C.ev, Option.map_eq_some_iff] at hx1 hy1
      obtain ⟨n, hn, hxe⟩ := hx1
      obtain ⟨k, hk1, hye⟩ := hy1
      split
      · rename_i d hd _
        obtain ⟨hu, _⟩ := hE.tys _ _ hd
        split
        · rename_i hdd
          rw [hdd] at hu
          refine effv hH (.bool (n == k)) (by simp [SV.ev, T1.ev, C.ev, B.eqb'_ev hn hk1]) ?_
          simp only [execOp, ← hxe, ← hye]
          rw [Sem.run_bind, Sem.run_bind, run_guard_bool]
          simp only [Result.andThen_ok]
          rw [run_eql_bool _ t n k hu]
          rfl
        · trivial
      · rename_i d hd _
        obtain ⟨hu, _⟩ := hE.tys _ _ hd
        split
        · rename_i hdd
          rw [hdd] at hu
          refine effv hH (.bool (!(n == k))) (by simp [SV.ev, T1.ev, C.ev, B.not'_ev (B.eqb'_ev hn hk1)]) ?_
          simp only [execOp, ← hxe, ← hye]
          rw [Sem.run_bind, Sem.run_bind, run_guard_bool]
          simp only [Result.andThen_ok]
          rw [run_neq_bool _ t n k hu]
          rfl
        · trivial
      · trivial
    · rename_i e1 e2 h1 h2
      have hx1 := op1_ok (hx x (by simp [opnds])) h1
      have hy1 := op1_ok (hx y (by simp [opnds])) h2
      simp only [T1.ev, C.ev, Option.map_eq_some_iff] at hx1 hy1
      obtain ⟨n, hn, hxe⟩ := hx1
      obtain ⟨k, hk1, hye⟩ := hy1
      have hgd : ∀ op (w : World), (eqGuard op t x y (.string n) (.string k)).run P w = .ok () w := by intro op w; unfold eqGuard; split <;> simp
      split
      · refine effv hH (.bool (n.toList == k.toList)) (by simp [SV.ev, T1.ev, C.ev, B.eqs'_ev hn hk1]) ?_
        simp only [execOp, ← hxe, ← hye]
        rw [Sem.run_bind, Sem.run_bind, hgd]
        simp [binOp_string_eql]
      · refine effv hH (.bool (!(n.toList == k.toList))) (by simp [SV.ev, T1.ev, C.ev, B.not'_ev (B.eqs'_ev hn hk1)]) ?_
        simp only [execOp, ← hxe, ← hye]
        rw [Sem.run_bind, Sem.run_bind, hgd]
        simp [binOp_string_neq]
      · trivial
    · rename_i xs ys h1 h2
      have hx1 := op1_ok (hx x (by simp [opnds])) h1
      have hy1 := op1_ok (hx y (by simp [opnds])) h2
      simp only [T1.ev, Option.map_eq_some_iff] at hx1 hy1
      obtain ⟨us, hus, hxe⟩ := hx1
      obtain ⟨vs, hvs, hye⟩ := hy1
      split
      · rename_i ks k1 k2 q hks hk1 hk2 hq
        split
        · rename_i hkk
          obtain ⟨rfl, rfl⟩ := hkk
          obtain ⟨he1, he2⟩ := hE.eqs t _ hks us vs (kindsC_of hk1 hus) (kindsC_of hk2 hvs) x y w
          have hqe := eqCs_ev hq hus hvs
          split
          · refine effv hH (.bool (allEq us vs)) (by simp [SV.ev, T1.ev, C.ev, hqe]) ?_
            simp only [execOp, ← hxe, ← hye]
            rw [Sem.run_bind, he1]
            rfl
          · refine effv hH (.bool (!allEq us vs)) (by simp [SV.ev, T1.ev, C.ev, B.not'_ev hqe]) ?_
            simp only [execOp, ← hxe, ← hye]
            rw [Sem.run_bind, he2]
            rfl
          · trivial
        · trivial
      · trivial
    · trivial
  | unOp uop t x =>
    simp only [step]
    split
    · rename_i e h1
      have hc := opc_ok (hx x (by simp [opnds])) h1
      simp only [C.ev, Option.map_eq_some_iff] at hc
      obtain ⟨n, hn, hct⟩ := hc
      have hz : (E.nu 0).ev ρ = some (0 : Int) := rfl
      refine effv hH (.int .i64 (wrap64 (0 - n))) (by simp [SV.ev, T1.ev, C.ev, E.sub'_ev hz hn]) ?_
      simp [execOp, ← hct, Op.unary, Op.intArith, i64w]
    · rename_i e h1
      have hc := opc_ok (hx x (by simp [opnds])) h1
      simp only [C.ev, Option.map_eq_some_iff] at hc
      obtain ⟨n, hn, hct⟩ := hc
      refine effv hH (.bool (!n)) (by simp [SV.ev, T1.ev, C.ev, B.not'_ev hn]) ?_
      simp [execOp, ← hct, Op.unary]
    · trivial
  | fieldAddr t x j =>
    simp only [step]
    split
    · rename_i g off d hx1 hd
      obtain ⟨b, hb, hct⟩ := pt_ev (opc_ok (hx x (by simp [opnds])) hx1)
      obtain ⟨hu, _⟩ := hE.tys _ _ hd
      split
      · rename_i fs hfs
        rw [hfs] at hu
        split
        · rename_i f hf1
          split
          · rename_i df hdf
            obtain ⟨_, i, hi, _, hs, _⟩ := hE.tys _ _ hdf
            split
            · trivial
            · rename_i hz
              refine effv hH (.pointer (some ⟨b, off + f.offset, none⟩)) (by simp [SV.ev, T1.ev, C.ev, hb]) ?_
              simp only [execOp, hct, Sem.run_bind, run_field_at hu hf1 hi (by omega), Result.andThen_ok, Sem.run_pure]
          · trivial
        · trivial
      · trivial
    · rename_i g ix sz off d hx1 hd
      obtain ⟨b, o, n, c, q, hb, hj, hct⟩ := ep_ev (opc_ok (hx x (by simp [opnds])) hx1)
      obtain ⟨hu, _⟩ := hE.tys _ _ hd
      split
      · rename_i fs hfs
        rw [hfs] at hu
        split
        · rename_i f hf1
          split
          · rename_i df hdf
            obtain ⟨_, i, hi, _, hs, _⟩ := hE.tys _ _ hdf
            split
            · trivial
            · rename_i hz
              refine effv hH (.pointer (some ⟨b, o + q.toNat * sz + off + f.offset, none⟩)) (by simp [SV.ev, T1.ev, C.ev, epV, hb, hj, Nat.add_assoc]) ?_
              simp only [execOp, hct, Sem.run_bind, run_field_at hu hf1 hi (by omega), Result.andThen_ok, Sem.run_pure]
          · trivial
        · trivial
      · trivial
    · trivial
  | field t x j =>
    simp only [step]
    split
    · rename_i cs d hx1 hd
      have hc := op1_ok (hx x (by simp [opnds])) hx1
      simp only [T1.ev, Option.map_eq_some_iff] at hc
      obtain ⟨vs, hvs, hct⟩ := hc
      obtain ⟨hu, _⟩ := hE.tys _ _ hd
      split
      · rename_i fs hfs
        rw [hfs] at hu
        split
        · rename_i f hf
          split
          · rename_i df hdf
            obtain ⟨huf, i, hi, _, hs, _⟩ := hE.tys _ _ hdf
            have hp := run_part (w := w) huf hi vs.toArray f.offset
            split
            · rename_i hag
              refine effv hH (.agg ((vs.drop f.offset).take df.sz).toArray) (by simp [SV.ev, T1.ev, evs_take _ (evs_drop _ hvs)]) ?_
              rw [if_pos hag] at hp
              simp only [execOp, ← hct, Instr.field, Sem.run_bind, run_underlying hu, Result.andThen_ok, hf, asAgg, Sem.run_pure, hp]
              simp [hs]
            · rename_i hag
              split
              · rename_i c hc
                obtain ⟨v, hv, hcv⟩ := evs_get hvs hc
                refine effv hH (v) (hcv) ?_
                rw [if_neg hag] at hp
                simp only [List.getElem?_toArray, hv] at hp
                simp only [execOp, ← hct, Instr.field, Sem.run_bind, run_underlying hu, Result.andThen_ok, hf, asAgg, Sem.run_pure, hp]
              · trivial
          · trivial
        · trivial
      · trivial
    · trivial
  | index t x ix =>
    simp only [step]
    split
    · rename_i cs i d hx1 hi1 hd
      have hc := op1_ok (hx x (by simp [opnds])) hx1
      simp only [T1.ev, Option.map_eq_some_iff] at hc
      obtain ⟨vs, hvs, hct⟩ := hc
      have hc2 := opc_ok (hx ix (by simp [opnds])) hi1
      simp only [C.ev, E.ev, Option.map_some, Option.some.injEq] at hc2
      obtain ⟨hu, _⟩ := hE.tys _ _ hd
      split
      · rename_i len e hfs
        rw [hfs] at hu
        split
        · rename_i de hde
          obtain ⟨huf, ie, hie, _, hs, _⟩ := hE.tys _ _ hde
          have hp := run_part (w := w) huf hie vs.toArray (i.toNat * de.sz)
          split
          · rename_i hle
            split
            · rename_i hag
              refine effv hH (.agg ((vs.drop (i.toNat * de.sz)).take de.sz).toArray) (by simp [SV.ev, T1.ev, evs_take _ (evs_drop _ hvs)]) ?_
              rw [if_pos hag] at hp
              simp only [execOp, ← hct, ← hc2, Instr.index, asIntOf, Sem.run_bind, run_underlying hu, Result.andThen_ok, Sem.run_pure, if_pos hle, run_sizeOf' hie, hs, hp]
              simp [hs]
            · rename_i hag
              split
              · rename_i c hc
                obtain ⟨v, hv, hcv⟩ := evs_get hvs hc
                refine effv hH (v) (hcv) ?_
                rw [if_neg hag] at hp
                simp only [List.getElem?_toArray, hv] at hp
                simp only [execOp, ← hct, ← hc2, Instr.index, asIntOf, Sem.run_bind, run_underlying hu, Result.andThen_ok, Sem.run_pure, if_pos hle, run_sizeOf' hie, hs, hp]
              · trivial
          · trivial
        · trivial
      · trivial
    · trivial
  | indexAddr t x ix =>
    simp only [step]
    split
    · rename_i g off i d hx1 hi1 hd
      obtain ⟨b, hb, hct⟩ := pt_ev (opc_ok (hx x (by simp [opnds])) hx1)
      have hc2 := opc_ok (hx ix (by simp [opnds])) hi1
      simp only [C.ev, E.ev, Option.map_some, Option.some.injEq] at hc2
      obtain ⟨hu, _⟩ := hE.tys _ _ hd
      split
      · rename_i len e hfs
        rw [hfs] at hu
        split
        · rename_i de hde
          obtain ⟨_, ie, hie, _, hs, _⟩ := hE.tys _ _ hde
          split
          · rename_i hle
            refine effv hH (.pointer (some ⟨b, off + i.toNat * de.sz, none⟩)) (by simp [SV.ev, T1.ev, C.ev, hb]) ?_
            simp only [execOp, hct, ← hc2, Sem.run_bind, run_index_array hu hie _ _ _ hle, Result.andThen_ok, Sem.run_pure, hs]
          · trivial
        · trivial
      · trivial
    · rename_i g i d hx1 hi1 hd
      obtain ⟨ha, n, c, hb, hct⟩ := hd_ev (opc_ok (hx x (by simp [opnds])) hx1)
      have hc2 := opc_ok (hx ix (by simp [opnds])) hi1
      simp only [C.ev, Option.map_eq_some_iff] at hc2
      obtain ⟨q, hq, hc2⟩ := hc2
      obtain ⟨hu, _⟩ := hE.tys _ _ hd
      split
      · rename_i e hfs
        rw [hfs] at hu
        split
        · rename_i de ln hde hln
          obtain ⟨_, ie, hie, _, hs, _⟩ := hE.tys _ _ hde
          obtain ⟨hcc, hg1, hg2⟩ := Option.bind_eq_some_iff.1 hln
          obtain ⟨a2, n2, c2, e1, e2⟩ := HC.len_ev (hps g _ hg1) hg2
          rw [hb] at e1
          cases e1
          split
          · rename_i k1
            split
            · rename_i k2
              have h1 := hk _ _ k1
              have hz : (E.nu 0).ev ρ = some (0 : Int) := rfl
              rw [B.le'_ev hz hq] at h1
              have h2 := hk _ _ k2
              rw [B.lt'_ev hq e2] at h2
              simp only [Option.some.injEq, decide_eq_true_eq] at h1 h2
              obtain ⟨b, off, rfl⟩ := HOk.addr (hps g _ hg1) hg2 hb (by omega)
              refine effv hH (.pointer (some ⟨b, off + q.toNat * de.sz + 0, none⟩)) (by simp [SV.ev, T1.ev, C.ev, epV, hb, hq]) ?_
              simp only [execOp, hct, ← hc2, Sem.run_bind, run_index_slice hu hie _ _ _ ⟨h1, h2⟩, Result.andThen_ok, Sem.run_pure, hs, Nat.add_zero]
            · trivial
            · trivial
          · trivial
          · trivial
        · trivial
      · trivial
    · trivial
  | extract x i =>
    simp only [step]
    split
    · rename_i l hl
      split
      · rename_i t ht
        have h1 := hx x (by simp [opnds]) (by rw [hl]; simp)
        rw [hl] at h1
        simp only [SV.ev, Option.map_eq_some_iff] at h1
        obtain ⟨vs, hvs, he⟩ := h1
        obtain ⟨v, hv, htv⟩ := t1s_get hvs ht
        refine effv hH (v) (htv) ?_
        simp [execOp, Instr.extract, ← he, hv]
      · trivial
    · trivial
  | buildSlice t len parts =>
    simp only [step]
    split
    · rename_i d hd
      obtain ⟨hu, _⟩ := hE.tys _ _ hd
      split
      · rename_i e hfs
        rw [hfs] at hu
        split
        · rename_i de ps ks hde hpsl hkd
          obtain ⟨hue, ie, hie, hze, hse, hbe⟩ := hE.tys _ _ hde
          obtain ⟨hl, hpp⟩ := opls_ok (fun q hq => hx q.2 (by simp only [opnds]; exact List.mem_map_of_mem hq)) hpsl
          have hp' : ∀ (j k : Nat) (ds : List C), ps[j]? = some (k, ds) → ∃ u, (parts.toList.map fun q => (q.1, a.eval q.2))[j]? = some (k, u) ∧ evs m ρ ds = some u.cells.toList := by
            intro j k ds hj
            obtain ⟨x, h1, h2⟩ := hpp j k ds hj
            exact ⟨a.eval x, by rw [List.getElem?_map, h1]; rfl, h2⟩
          split
          · rename_i zs hzs
            split
            · trivial
            · rename_i hne
              split
              · rename_i cs hcs
                have hzl : zs.length = de.zv.cells.size := by have := evs_length (liftCs_ev (m := m) (ρ := ρ) hzs); simpa using this.symm
                have hz := evs_map (m := m) (ρ := ρ) (f := fun i => zs.getD (i % zs.length) (.kv (.pointer none))) (g := fun i => de.zv.cells[i % de.zv.cells.size]!) (List.range (len * de.sz)) (fun i _ => by
                  have hlt : i % zs.length < zs.length := Nat.mod_lt _ (by omega)
                  obtain ⟨v, hv, hcv⟩ := evs_get (liftCs_ev (m := m) (ρ := ρ) hzs) (show zs[i % zs.length]? = some zs[i % zs.length] by simp [hlt])
                  rw [← hzl]
                  have h1 : de.zv.cells[i % zs.length]! = v := by
                    have : de.zv.cells[i % zs.length]? = some v := by simpa using hv
                    simp only [getElem!_def, this]
                  rw [h1, List.getD_eq_getElem?_getD, List.getElem?_eq_getElem hlt]
                  exact hcv)
                obtain ⟨us, h1, h2⟩ := fill_ok (xs := parts.toList.map fun q => (q.1, a.eval q.2)) hz (by simpa using hl) hp' hcs
                split
                case h_2 => trivial
                case h_3 => trivial
                rename_i L hL
                have hcl : us.length = len * de.sz := by
                  have := fill_len hcs
                  rw [evs_length h1, this]; simp
                obtain ⟨rows, r1, r2, r3⟩ := rowsOf_ok hps hL (by rw [chunks_length, chunksV_length]) (vals := chunksV de.sz len us) (chunks_ev h1)
                have hzz : de.sz ≠ 0 := fun e => hne (.inr (.inl e))
                have hkl : ks.length = de.sz := by
                  by_cases e : ks.length = de.sz
                  · exact e
                  · exact absurd (.inr (.inr (.inr (.inr e)))) hne
                have hmx : len ≤ maxLen := by
                  have h0 : len * 1 ≤ len * de.sz := Nat.mul_le_mul_left len (by omega)
                  have h3 : ¬ len * de.sz > 16777216 := fun e => hne (.inr (.inr (.inr (.inl e))))
                  unfold maxLen; omega
                rw [hkl] at r3
                have hrunB : (execOp a.eval ⟨dst, .buildSlice t len parts, type, pos, after, guard⟩).run P w = .ok (.value (.slice (some ⟨w.heap.size, 0, none⟩) len len)) (w.alloc (.cells (chunksV de.sz len us).flatten.toArray e (0, 0))) := ?hrunB
                have hrl : rows.length = len := by rw [r2, chunks_length]
                split
                case h_2 => exact eff_own hH hf r1 hrl r3 hzz hmx hrunB
                case h_1 =>
                  rename_i pcs hfl
                  unfold mkE
                  split
                  case isFalse => trivial
                  rename_i h64
                  split
                  case h_2 => trivial
                  rename_i k0 hk0
                  obtain ⟨ps0, rr, e1, e2, e3⟩ := hcm _ _ _ (lkCall_mem hk0)
                  rw [flatL_ev hfl r1] at e1
                  cases e1
                  have e4 := hSF _ _ _ e2
                  have hrow : ∀ x ∈ rows, x.length = de.sz := r3.wide
                  have hfl2 : rows.flatten.length = rows.length * de.sz := flat_lengthP hrow
                  rw [drApp, if_neg (mk_big _ _), mk_mod _ _ h64] at e4
                  simp only [mkApp, if_neg hzz, hfl2, Nat.mul_div_cancel _ (Nat.pos_of_ne_zero hzz), unfl_flatten hrow, Option.some.injEq] at e4
                  subst e4
                  exact eff_mk hH hf (e3 0 _ rfl) hrl r3 hzz hmx hrunB
                rw [chunksV_flatten hcl]
                have hsz : ¬ 16777216 < len * de.sz := by omega
                have hnz : ¬ len * de.sz = 0 := Nat.mul_ne_zero (by omega) (by omega)
                have harr : (Array.range (len * de.sz)).map (fun x => de.zv.cells[x % de.zv.cells.size]!) = ((List.range (len * de.sz)).map fun i => de.zv.cells[i % de.zv.cells.size]!).toArray := by
                  apply Array.toList_inj.1
                  simp [Array.toList_range]
                have h2' : Instr.fill (fun i => some (i * de.sz, de.sz)) ((Array.range (len * de.sz)).map (fun x => de.zv.cells[x % de.zv.cells.size]!)) (parts.toList.map fun q => (q.1, a.eval q.2)) = some us.toArray := by
                  rw [harr]; exact h2
                simp only [execOp, Instr.buildSlice, Sem.run_bind, run_underlying hu, Result.andThen_ok, run_sizeOf' hie, Array.toList_map, hse]
                simp only [hsz, hnz, if_false, Sem.run_bind, Sem.run_pure, Result.andThen_ok, run_zero' hie hze, Nat.reducePow, gt_iff_lt]
                rw [h2']
                simp [newRow, Sem.run_bind]
              · trivial
          · trivial
        · trivial
      · trivial
    · trivial
  | call c =>
    obtain ⟨callee, args, ats⟩ := c
    simp only [step]
    split
    · split
      · rename_i f as ps sh has hfs
        have h1 := op1s_ok (fun x hx' => hx x (by simpa [opnds] using hx')) has
        split
        · rename_i pcs hpc
          split
          · rename_i k0 hk0
            split
            · rename_i h64
              obtain ⟨pl, e1, e2⟩ := argsOf_ok hps hpc h1
              refine ⟨_, pl, ps, ?_, e1, hfs, e2, hk0, h64⟩
              rw [execOp_call_go, ← map_toList2 rfl]
              simp
            · trivial
          · trivial
        · trivial
        · trivial
      · trivial
    · split
      · rename_i e1 e2 has
        have h1 := op1s_ok (fun x hx' => hx x (by simpa [opnds] using hx')) has
        obtain ⟨v1, v2, n, k, hn, hk1, rfl, rfl, hl⟩ := two_ints h1
        refine effv hH (.int .i64 (if n < k then k else n)) (by simp [SV.ev, T1.ev, C.ev, E.mx'_ev hn hk1]) ?_
        rw [BigFrame.execOp_builtin, BigFrame.builtin_max, map_toList2 hl]
        simp [Sem.run_bind, run_max_int2]
      · trivial
    · split
      · rename_i e1 e2 has
        have h1 := op1s_ok (fun x hx' => hx x (by simpa [opnds] using hx')) has
        obtain ⟨v1, v2, n, k, hn, hk1, rfl, rfl, hl⟩ := two_ints h1
        refine effv hH (.int .i64 (if k < n then k else n)) (by simp [SV.ev, T1.ev, C.ev, E.mn'_ev hn hk1]) ?_
        rw [BigFrame.execOp_builtin, BigFrame.builtin_min, map_toList2 hl]
        simp [Sem.run_bind, run_min_int2]
      · trivial
    · split
      · rename_i x t has hat
        have h1 := op1s_ok (fun x hx' => hx x (by simpa [opnds] using hx')) has
        have hats : ats = #[t] := by apply Array.toList_inj.1; simpa using hat
        subst hats
        split
        · rename_i d hd
          obtain ⟨hu, _⟩ := hE.tys _ _ hd
          split
          · rename_i e g hde
            rw [hde] at hu
            split
            · rename_i ln hln
              obtain ⟨hcc, hg1, hg2⟩ := Option.bind_eq_some_iff.1 hln
              obtain ⟨a2, n2, c2, e1, e2⟩ := HC.len_ev (hps g _ hg1) hg2
              simp only [T1.evs, T1.ev, C.ev, e1, Option.bind_some, Option.some.injEq] at h1
              refine effv hH (.int .i64 n2) (by simp [SV.ev, T1.ev, C.ev, e2]) ?_
              rw [BigFrame.execOp_builtin, BigFrame.builtin_len, map_toList2 h1.symm]
              simp [Sem.run_bind, Builtin.len_, run_underlying hu, goInt]
            · trivial
          · rename_i e n c hde
            rw [hde] at hu
            simp only [T1.evs, T1.ev, C.ev, Value.oneCell', if_true, Option.bind_some, Option.some.injEq] at h1
            refine effv hH (.int .i64 n) (by simp [SV.ev, T1.ev, C.ev, E.ev]) ?_
            rw [BigFrame.execOp_builtin, BigFrame.builtin_len, map_toList2 h1.symm]
            simp [Sem.run_bind, Builtin.len_, run_underlying hu, goInt]
          · rename_i k hde
            rw [hde] at hu
            simp only [T1.evs, T1.ev, C.ev, Option.bind_eq_some_iff, Option.map_eq_some_iff, Option.some.injEq] at h1
            obtain ⟨v, ⟨s, hs, rfl⟩, vs, rfl, h1⟩ := h1
            have hs' : (E.slen k).ev ρ = some (s.size : Int) := by
              simp only [SE.ev] at hs
              split at hs
              · rename_i hq; cases hs; simp [E.ev, hq]
              · cases hs
            refine effv hH (.int .i64 s.size) (by simp [SV.ev, T1.ev, C.ev, hs']) ?_
            rw [BigFrame.execOp_builtin, BigFrame.builtin_len, map_toList2 h1.symm]
            simp [Sem.run_bind, Builtin.len_, run_underlying hu, goInt]
          · rename_i s hde
            rw [hde] at hu
            simp only [T1.evs, T1.ev, C.ev, SE.ev, Option.map_some, Option.bind_some, Option.some.injEq] at h1
            refine effv hH (.int .i64 s.size) (by simp [SV.ev, T1.ev, C.ev, E.ev]) ?_
            rw [BigFrame.execOp_builtin, BigFrame.builtin_len, map_toList2 h1.symm]
            simp [Sem.run_bind, Builtin.len_, run_underlying hu, goInt]
          · trivial
        · trivial
      · trivial
    · split
      · rename_i s gx t t' has hat
        have h1 := op1s_ok (fun x hx' => hx x (by simpa [opnds] using hx')) has
        have hats : ats = #[t, t'] := by apply Array.toList_inj.1; simpa using hat
        subst hats
        split
        · rename_i d hd
          obtain ⟨hu, _⟩ := hE.tys _ _ hd
          split
          · rename_i e hde
            rw [hde] at hu
            split
            · rename_i de hde2
              obtain ⟨_, i, hi, hz, hsz, hbs⟩ := hE.tys _ _ hde2
              split
              · rename_i hcnd
                obtain ⟨rfl, hn1, hn2, hn3⟩ := hcnd
                simp only [T1.evs, T1.ev, Option.bind_eq_some_iff, Option.some.injEq] at h1
                obtain ⟨v, hv1, us, ⟨x, hx1, us', rfl, rfl⟩, h1⟩ := h1
                have hrun : ∀ v' w', (Builtin.append_ #[t, t] type #[v, x]).run P w = .ok v' w' → (execOp a.eval ⟨dst, .call ⟨.builtin .append, args, #[t, t]⟩, type, pos, after, guard⟩).run P w = .ok (.value v') w' := fun v' w' hr => by
                  rw [BigFrame.execOp_builtin, BigFrame.builtin_append, map_toList2 h1.symm]
                  simp [Sem.run_bind, hr]
                rw [← hsz, ← hbs]
                rw [← hsz] at hn1 hn3
                rw [← hbs] at hn2
                have hnilown : w.ownsRow base e i.size (.slice none 0 0) ([] : List (List PD)).length ([] : List (List Value)).flatten := World.ownsRow_nil w base e i.size
                split
                · rename_i X ex sx hgx
                  split
                  · rename_i hq
                    obtain ⟨rfl, rfl⟩ := hq
                    obtain ⟨rows, vals, r1, r2, _⟩ := src_own (hps gx _ hgx) hx1
                    simp only [C.ev, Value.oneCell', if_true, Option.some.injEq] at hv1
                    subst hv1
                    exact appE_ok hH hf hk hu hi hz hn3 hn1 hn2 hnilown trivial r2 (by simpa using r1) rfl hrun
                  · trivial
                · rename_i k ex sx hgx
                  split
                  · rename_i hq
                    subst hq
                    obtain ⟨rows, vals, r1, r2⟩ := src_per (hps gx _ hgx) hx1
                    simp only [C.ev, Value.oneCell', if_true, Option.some.injEq] at hv1
                    subst hv1
                    exact appE_ok hH hf hk hu hi hz hn3 hn1 hn2 hnilown trivial r2 (by simp [LE.rows, r1]) rfl hrun
                  · trivial
                · rename_i g X ex sx hgx
                  split
                  · rename_i L el sl hgl
                    split
                    · rename_i hq
                      obtain ⟨rfl, rfl, rfl, rfl, hne⟩ := hq
                      obtain ⟨rows, vals, r1, r2, _⟩ := src_own (hps gx _ hgx) hx1
                      obtain ⟨rows0, vals0, r3, r4, r5⟩ := src_own (hps g _ hgl) hv1
                      obtain ⟨a0, n0, c0, q1, q2⟩ := hd_ev hv1
                      exact appE_ok hH hf hk hu hi hz hn3 hn1 hn2 r5 r4.rep r2 (LE.rows_append r3 r1) ⟨⟨_, hv g _ hgl, rfl⟩, a0, n0, c0, q1, q2⟩ hrun
                    · trivial
                  · trivial
                · rename_i g k ex sx hgx
                  split
                  · rename_i L el sl hgl
                    split
                    · rename_i hq
                      obtain ⟨rfl, rfl, rfl⟩ := hq
                      obtain ⟨rows, vals, r1, r2⟩ := src_per (hps gx _ hgx) hx1
                      obtain ⟨rows0, vals0, r3, r4, r5⟩ := src_own (hps g _ hgl) hv1
                      obtain ⟨a0, n0, c0, q1, q2⟩ := hd_ev hv1
                      exact appE_ok hH hf hk hu hi hz hn3 hn1 hn2 r5 r4.rep r2 (LE.rows_append r3 (by simp [LE.rows, r1] : LE.rows ρ [.va k] = some rows)) ⟨⟨_, hv g _ hgl, rfl⟩, a0, n0, c0, q1, q2⟩ hrun
                    · trivial
                  · trivial
                · trivial
              · trivial
            · trivial
          · trivial
        · trivial
      · trivial
    · trivial
  | slice t x lo hi mx =>
    cases mx with
    | some y => trivial
    | none =>
    simp only [step]
    split
    case h_2 => trivial
    rename_i g d hxx htd
    split
    case h_2 => trivial
    rename_i e hde
    split
    case h_2 => trivial
    case h_3 => trivial
    rename_i de k et sz hte hpg
    split
    case isFalse => trivial
    rename_i hsz
    obtain ⟨hsz, hz⟩ := hsz
    split
    case h_2 => trivial
    rename_i l hh hl hhh
    unfold subE
    split
    case isTrue => trivial
    rename_i hlt
    split
    case h_2 => trivial
    case h_3 => trivial
    rename_i hc
    split
    case h_2 => trivial
    rename_i k0 hk0
    obtain ⟨hu, _⟩ := hE.tys t d htd
    rw [hde] at hu
    obtain ⟨_, i, hinf, _, his, _⟩ := hE.tys e de hte
    obtain ⟨ad, nn, c, rows, hm, hr, hrep⟩ := hps g _ hpg
    have hxv : a.eval x = .slice ad nn c := by
      have := opc_ok (hx x (by simp [opnds])) hxx
      simp only [C.ev, hm, Option.some.injEq] at this
      exact this.symm
    have hcap := hrep.cap
    have hnn : nn = rows.length := hrep.list.1
    have hall := chkB_ok hk hc
    obtain ⟨ps, rr, e1, e2, e3⟩ := hcm _ _ _ (lkCall_mem hk0)
    simp only [pds, PC.pd, hr, Option.bind_some, Option.bind_eq_some_iff, Option.map_eq_some_iff, Option.some.injEq] at e1
    obtain ⟨_, ⟨_, ⟨lv, hlv, rfl⟩, _, ⟨_, ⟨hv', hhv, rfl⟩, rfl⟩, rfl⟩, rfl⟩ := e1
    have hlen : (E.lens [k] 0).ev ρ = some ((rows.length : Nat) : Int) := by simp [E.ev, lensEv, hr]
    have h0 := le'_true (ρ := ρ) (x := .nu 0) (u := 0) rfl hlv (hall _ (by simp))
    have h1 := le'_true hlv hhv (hall _ (by simp))
    have h2 := le'_true hhv hlen (hall _ (by simp))
    have e4 := hSF _ _ _ e2
    simp only [drApp, if_pos (show et < 1000000 by omega), subApp, if_pos (And.intro h0 (And.intro h1 h2)), Option.some.injEq] at e4
    subst e4
    have hrep' := hrep.sliced (l := lv.toNat) (hi := hv'.toNat) (mx := c) (by omega) (by omega) (by omega) (Nat.le_refl _)
    obtain ⟨q1, q2, q3, q4⟩ := eff_news (ks := [.l et sz]) (ps := [.lst sz ((rows.take hv'.toNat).drop lv.toNat)]) (vs := [Go.sliced ad lv.toNat hv'.toNat c sz]) hH (by simp) hf (by simp [K4.oks, K4.ok]) ⟨hrep', trivial⟩ e3
    refine ⟨_, w, q1, q2, q3, .inl ⟨Go.sliced ad lv.toNat hv'.toNat c sz, ?_, ?_⟩⟩
    · simp only [kcells, K4.cell, evs, Option.bind_some, Option.bind_eq_some_iff, Option.some.injEq] at q4
      obtain ⟨u, hu1, hu2⟩ := q4
      simp only [List.cons.injEq, and_true] at hu2
      subst hu2
      exact hu1
    · have hrun := sliceRun (P := P) (w := w) hu hinf (by omega : i.size = sz) hxv (lo := lo) (hi := hi) (lv := lv) (hv := hv')
        (by
          rcases optE_ok (fun y hy => hx y (by cases lo <;> simp_all [opnds])) hl hlv with ⟨rfl, rfl⟩ | hq
          · simp only [E.ev, Option.some.injEq] at hlv
            exact .inl ⟨rfl, hlv.symm⟩
          · exact .inr hq)
        (by
          rcases optE_ok (fun y hy => hx y (by cases hi <;> simp_all [opnds])) hhh hhv with ⟨rfl, rfl⟩ | hq
          · rw [hlen] at hhv
            simp only [Option.some.injEq] at hhv
            exact .inl ⟨rfl, by rw [← hhv, hnn]⟩
          · exact .inr hq) h0 h1 (by omega) hcap
      show ((Instr.sliceAt t (a.eval x) (lo.map a.eval) (hi.map a.eval) none) >>= fun u => pure (Next.value u)).run P w = _
      rw [Sem.run_bind, hrun]
      rfl
  | _ => trivial
end
/-! ### 8. The state of a call; one operation -/
abbrev TmF := Nat → SV
def lkB (c : B) : List (B × Bool) → Option Bool
  | [] => none
  | (b, x) :: l => if b = c then some x else lkB c l
def knB (l : List (B × Bool)) : B → Option Bool
  | .co x => some x
  | .not c => (knB l c).map (!·)
  | c => lkB c l
def assumeB : B → Bool → List (B × Bool) → List (B × Bool)
  | .not c, x, l => assumeB c (!x) l
  | .and a b, true, l => (.and a b, true) :: assumeB a true (assumeB b true l)
  | c, x, l => (c, x) :: l
structure St where
  tms : List (Nat × SV)
  hps : List (Nat × Option HC)
  kn : List (B × Bool)
  gm : List (Nat × E × Nat × List K4)
  cm : List (Nat × List PC × Nat)
  nv : Nat
  nb : Nat
def St.tm (s : St) : TmF := fun t => (lk t s.tms).getD .und
def hpOf (l : List (Nat × Option HC)) : HpF := fun g => (lk g l).getD none
def St.hp (s : St) : HpF := hpOf s.hps
def St.rd (s : St) : Rd := ⟨s.tm, s.hp, knB s.kn, s.nb, s.gm, s.cm, false⟩
inductive Wn where
  | yes | no | fork (c : B) | bad
def wantT (tm : TmF) (kn : B → Option Bool) (all : Array Oper) (o : Oper) : Wn := match o.guard with
  | none => .yes
  | some (g, b) => match (all[g]?).bind (·.dst) with
    | none => .no
    | some t => match tm t with
      | .one (.ce (.bo c)) => match kn c with
        | some x => if x = b then .yes else .no
        | none => .fork c
      | .tup [] => .no
      | _ => .bad
inductive RR where
  | fork (c : B) | getr (k : Nat) (i : E) (ks : List K4) | ask (f : Nat) (pcs : List PC) | fix (g : Nat) | bad | ok (s : St)
def St.set (s : St) (n : Nat) (d : Option Nat) (v : SV) : RR := match d with
  | none => .ok s
  | some d => if d < n then .ok { s with tms := (d, v) :: s.tms } else .bad
/-- What an effect leaves. -/
def delta (nb : Nat) : Eff → Option (SV × List (Nat × Option HC))
  | .ok v upd => some (v, upd)
  | .call f pcs k0 sh => some (sh.sv k0 nb, knews k0 nb sh.ks)
  | _ => none
def applyE (s : St) (n : Nat) (dst : Option Nat) (e : Eff) : RR := match e with
  | .fork c => .fork c
  | .getr k i ks => .getr k i ks
  | .ask f pcs => .ask f pcs
  | .fix g => .fix g
  | e => match delta s.nb e with
    | some (v, upd) => St.set { s with hps := upd ++ s.hps, nb := s.nb + 64 } n dst v
    | none => .bad
/-! .. and that it is so -/
def KnOk (l : List (B × Bool)) (ρ : List PD) : Prop := ∀ c x, (c, x) ∈ l → c.ev ρ = some x
/-- What is told of the functions that are called. -/
def Good (P : Program) (fs : List (Nat × List S1 × Sh)) (F : FnE) : Prop := SubF F ∧ ∀ f sg sh ps r, f < 3000000 → fs.lookup f = some (sg, sh) → F f ps = some r → (∀ args w, (callFunc f args).run P w = .ok (.enter f args) w) ∧
  ∀ (args : List Value) (w : World) (S : Nat → Prop), (∀ b, S b → b < w.heap.size) → RepArgs w S sg ps args → Calls P f args.toArray w fun
    | .returned u, w' => RepSh w' (fun b => S b ∨ (w.heap.size ≤ b ∧ b < w'.heap.size)) sh r u ∧ Below w.heap.size w w'
    | _, _ => False
theorem lkB_ok {l : List (B × Bool)} {ρ : List PD} (h : KnOk l ρ) {c : B} {x : Bool} (hc : lkB c l = some x) : c.ev ρ = some x := by
  induction l with
  | nil => simp [lkB] at hc
  | cons p l ih =>
    obtain ⟨b, y⟩ := p
    simp only [lkB] at hc
    split at hc
    · rename_i he
      cases hc
      exact h c x (by rw [he]; simp)
    · exact ih (fun c x hm => h c x (List.mem_cons_of_mem _ hm)) hc
theorem knB_ok {l : List (B × Bool)} {ρ : List PD} (h : KnOk l ρ) : ∀ (c : B) (x : Bool), knB l c = some x → c.ev ρ = some x
  | .co x, y, hc => by simp only [knB, Option.some.injEq] at hc; subst hc; rfl
  | .not c, x, hc => by
    simp only [knB, Option.map_eq_some_iff] at hc
    obtain ⟨y, hy, rfl⟩ := hc
    simp only [B.ev, knB_ok h c y hy, Option.bind_some]
  | .va k, x, hc => lkB_ok h hc
  | .lt a b, x, hc => lkB_ok h hc
  | .le a b, x, hc => lkB_ok h hc
  | .eq a b, x, hc => lkB_ok h hc
  | .and a b, x, hc => lkB_ok h hc
  | .eqb a b, x, hc => lkB_ok h hc
  | .eqs a b, x, hc => lkB_ok h hc
theorem KnOk.cons {l : List (B × Bool)} {ρ : List PD} (h : KnOk l ρ) {c : B} {x : Bool} (hc : c.ev ρ = some x) : KnOk ((c, x) :: l) ρ := fun d y hm => by
  rcases List.mem_cons.1 hm with e | hm
  · cases e; exact hc
  · exact h d y hm
theorem assumeB_ok : ∀ (c : B) (x : Bool) (l : List (B × Bool)) (ρ : List PD), KnOk l ρ → c.ev ρ = some x → KnOk (assumeB c x l) ρ
  | .not c, x, l, ρ, h, hc => by
    simp only [B.ev, Option.bind_eq_some_iff, Option.some.injEq] at hc
    obtain ⟨y, hy, rfl⟩ := hc
    simp only [assumeB]
    exact assumeB_ok c _ l ρ h (by simpa using hy)
  | .and a b, true, l, ρ, h, hc => by
    have hc' := hc
    simp only [B.ev, Option.bind_eq_some_iff, Option.some.injEq, Bool.and_eq_true] at hc'
    obtain ⟨y, hy, z, hz, rfl, rfl⟩ := hc'
    exact (assumeB_ok a true _ ρ (assumeB_ok b true l ρ h hz) hy).cons hc
  | .and a b, false, l, ρ, h, hc => h.cons hc
  | .co _, x, l, ρ, h, hc => h.cons hc
  | .va k, x, l, ρ, h, hc => h.cons hc
  | .lt a b, x, l, ρ, h, hc => h.cons hc
  | .le a b, x, l, ρ, h, hc => h.cons hc
  | .eq a b, x, l, ρ, h, hc => h.cons hc
  | .eqb a b, x, l, ρ, h, hc => h.cons hc
  | .eqs a b, x, l, ρ, h, hc => h.cons hc
def updT (tm : TmF) (d : Option Nat) (v : SV) : TmF := fun t => if d = some t then v else tm t
structure TR (n : Nat) (tm : TmF) (m : Bm) (ρ : List PD) (a : Act) : Prop where
  size : a.tmps.size = n
  defs : a.defers = []
  tms : ∀ t, tm t ≠ .und → (tm t).ev m ρ = some (a.tmps.getD t undef)
section
variable {P : Program} {env : Env} {F : FnE} {n : Nat} {tm : TmF} {hp : HpF} {m : Bm} {ρ : List PD} {S0 : Nat → Prop} {base : Nat} {Z : Option Mb} {W0 w : World} {a : Act} {K : Act → World → Prop} {Q : Exit → Act → World → Prop} {o : Oper} {ops : Array Oper}
theorem TR.put (h : TR n tm m ρ a) {d : Option Nat} {v : SV} {u : Value} (hd : ∀ t, d = some t → t < n) (hv : v ≠ .und → v.ev m ρ = some u) : TR n (updT tm d v) m ρ (a.put d u) where
  size := by cases d <;> simp [Act.put, h.size]
  defs := by cases d <;> simp [Act.put, h.defs]
  tms := by
    intro t ht
    cases d with
    | none => simp only [updT, reduceCtorEq, if_false] at ht ⊢; exact h.tms t ht
    | some e =>
      simp only [updT, Option.some.injEq] at ht ⊢
      by_cases he : e = t
      · subst he
        rw [if_pos rfl] at ht ⊢
        have := hd e rfl
        have h2 := h.size
        rw [hv ht]
        simp only [Act.put, Array.getD_eq_getD_getElem?]
        rw [Array.getElem?_setIfInBounds_self_of_lt (by omega)]
        rfl
      · rw [if_neg he] at ht ⊢
        rw [h.tms t ht]
        simp only [Act.put, Array.getD_eq_getD_getElem?]
        rw [Array.getElem?_setIfInBounds_ne he]
theorem TR.mono (h : TR n tm m ρ a) {m' : Bm} {ρ' : List PD} (hm : Bm.le m m') (hp : Pre ρ ρ') : TR n tm m' ρ' a :=
  ⟨h.size, h.defs, fun t ht => SV.mono hm hp _ _ (h.tms t ht)⟩
theorem bool_slot {t : Nat} {x : Bool} (h : a.tmps.getD t undef = .bool x) : a.tmps[t]? = some (.bool x) := by
  rw [Array.getD_eq_getD_getElem?] at h
  cases h1 : a.tmps[t]? with
  | none => rw [h1] at h; simp [undef] at h
  | some v => rw [h1] at h; simp at h; rw [h]
theorem wantT_ok {kn : B → Option Bool} (hk : ∀ c x, kn c = some x → c.ev ρ = some x) {tm' : TmF} (ht : ∀ t, tm' t ≠ .und → (tm' t).ev m ρ = some (a.tmps.getD t undef)) :
    match wantT tm' kn ops o with
    | .yes => Region.wanted o (yielded ops a.tmps) = true
    | .no => Region.wanted o (yielded ops a.tmps) = false
    | _ => True := by
  unfold wantT Region.wanted
  cases hg : o.guard with
  | none => simp
  | some p =>
    obtain ⟨g, b⟩ := p
    simp only
    cases hd : (ops[g]?).bind (·.dst) with
    | none => simp [yielded, hd]
    | some t =>
      simp only
      split <;> rename_i h0
      · split at h0
        · rename_i c hc
          have h1 := ht t (by rw [hc]; simp)
          rw [hc] at h1
          simp only [SV.ev, T1.ev, C.ev, Option.map_eq_some_iff] at h1
          obtain ⟨x, hx, hxe⟩ := h1
          have h2 := bool_slot hxe.symm
          split at h0
          · rename_i y hy
            have h3 := hk c y hy
            rw [hx] at h3
            cases h3
            split at h0
            · rename_i hxb
              simp [yielded, hd, h2, hxb]
            · cases h0
          · cases h0
        · cases h0
        · cases h0
      · split at h0
        · rename_i c hc
          have h1 := ht t (by rw [hc]; simp)
          rw [hc] at h1
          simp only [SV.ev, T1.ev, C.ev, Option.map_eq_some_iff] at h1
          obtain ⟨x, hx, hxe⟩ := h1
          have h2 := bool_slot hxe.symm
          split at h0
          · rename_i y hy
            have h3 := hk c y hy
            rw [hx] at h3
            cases h3
            split at h0
            · cases h0
            · rename_i hxb
              simp [yielded, hd, h2, hxb]
          · cases h0
        · rename_i hc
          have h1 := ht t (by rw [hc]; simp)
          rw [hc] at h1
          simp only [SV.ev, T1.evs, Option.map_some, Option.some.injEq] at h1
          have h2 : ∀ x, a.tmps[t]? ≠ some (.bool x) := fun x hx => by
            rw [Array.getD_eq_getD_getElem?, hx] at h1
            cases h1
          simp only [yielded, hd, Option.bind_some]
          cases h3 : a.tmps[t]? with
          | none => simp
          | some v => cases v <;> simp_all
        · cases h0
      · trivial
/-- An effect, carried out. -/
theorem eff_wp (hF : Good P env.fs F) {r : Rd} (ht : TR n tm m ρ a) (hH : HR S0 base W0 hp m ρ w) (hf : ∀ g, r.nb ≤ g → g < r.nb + 64 → m g = none) (hc : CmOk F r.cm ρ) (hd : ∀ t, o.dst = some t → t < n)
    {e : Eff} (he : EffOk P env S0 base W0 hp m ρ r a w o e) {v : SV} {upd : List (Nat × Option HC)} (hdl : delta r.nb e = some (v, upd))
    (hK : ∀ m' a' w', Bm.le m m' → (∀ g, ¬ (r.nb ≤ g ∧ g < r.nb + 64) → m' g = m g) → TR n (updT tm o.dst v) m' ρ a' → HR S0 base W0 (updA hp upd) m' ρ w' → K a' w') : o.wp P a w K Q := by
  cases e with
  | ok v' upd' =>
    simp only [delta, Option.some.injEq, Prod.mk.injEq] at hdl
    obtain ⟨rfl, rfl⟩ := hdl
    obtain ⟨m', w', h1, h2, h3, h4⟩ := he
    unfold Oper.wp
    rcases h4 with ⟨u, h5, h6⟩ | ⟨rfl, h6⟩
    · rw [h6]
      exact hK m' _ w' h1 h2 ((ht.mono h1 (Pre.refl ρ)).put hd fun _ => h5) h3
    · rw [h6]
      exact hK m' _ w' h1 h2 ((ht.mono h1 (Pre.refl ρ)).put hd fun _ => rfl) h3
  | call f pcs k0 sh =>
    simp only [delta, Option.some.injEq, Prod.mk.injEq] at hdl
    obtain ⟨rfl, rfl⟩ := hdl
    obtain ⟨vs, ps, sg, h1, h2, h3, h4, h5, h6, h6'⟩ := he
    obtain ⟨ps', rr, h7, h8, h9⟩ := hc f pcs k0 (lkCall_mem h5)
    rw [h2] at h7
    cases h7
    obtain ⟨h10, h11⟩ := hF.2 f sg sh ps rr h6' h3 h8
    unfold Oper.wp
    rw [h1, h10 _ w]
    refine Calls.mono (h11 vs w _ (fun b hb => hb.2.1) h4) fun e w' he => ?_
    cases e with
    | returned u =>
      obtain ⟨h12, h13⟩ := he
      have hH' := hH.world h13
      have h14 : RepSh w' (Stab S0 base hp m w') sh rr u := h12.mono (fun b hb => by
        rcases hb with hb | hb
        · exact ⟨hb.1, Nat.lt_of_lt_of_le hb.2.1 h13.size, hb.2.2⟩
        · refine ⟨.inr (by have := hH.le; omega), hb.2, fun g c hc hwr hbl => ?_⟩
          have := (hH.low g c b hc hwr hbl).2
          omega) (fun b _ => rfl)
      obtain ⟨q1, q2⟩ := h14.oks
      obtain ⟨e1, e2, e3, e4⟩ := eff_news hH' h6 hf q1 q2 h9
      exact hK _ _ w' e1 e2 ((ht.mono e1 (Pre.refl ρ)).put hd fun _ => sh_ev h14 h9 (fun g c1 c2 => hf g c1 (by omega)) (Bm.le_refl _)) e3
    | panicked c => exact he.elim
    | outgrown => exact he.elim
  | fork c => cases hdl
  | getr k i ks => cases hdl
  | fix g => cases hdl
  | ask f pcs => cases hdl
  | bad => cases hdl
structure SRel (F : FnE) (S0 : Nat → Prop) (base : Nat) (W0 : World) (Z : Option Mb) (n : Nat) (s : St) (m : Bm) (ρ : List PD) (a : Act) (w : World) : Prop where
  tr : TR n s.tm m ρ a
  hr : HR S0 base W0 s.hp m ρ w
  kn : KnOk s.kn ρ
  gm : GmOk s.gm ρ
  cm : CmOk F s.cm ρ
  nb : ∀ g, s.nb ≤ g → m g = none
  nv : ρ.length = s.nv
  z : ∀ b, Z = some b → m 0 = some b
  nb1 : 1 ≤ s.nb
theorem tm_cons (s : St) (d : Nat) (v : SV) : St.tm { s with tms := (d, v) :: s.tms } = updT s.tm (some d) v := by
  funext t
  simp only [St.tm, lk, updT, Option.some.injEq]
  split <;> simp
theorem lk_append {α : Type} {k : Nat} : ∀ {l l' : List (Nat × α)}, lk k (l ++ l') = (lk k l).or (lk k l')
  | [], l' => by simp [lk]
  | (j, y) :: l, l' => by
    simp only [List.cons_append, lk]
    split
    · simp
    · exact lk_append
theorem hp_append (upd l : List (Nat × Option HC)) : hpOf (upd ++ l) = updA (hpOf l) upd := by
  funext g
  simp only [hpOf, updA, lk_append]
  cases lk g upd <;> simp
theorem set_spec {s s' : St} {d : Option Nat} {v : SV} (h : s.set n d v = .ok s') : (∀ t, d = some t → t < n) ∧ s'.tm = updT s.tm d v ∧ s'.hps = s.hps ∧ s'.kn = s.kn ∧ s'.gm = s.gm ∧ s'.cm = s.cm ∧ s'.nb = s.nb ∧ s'.nv = s.nv := by
  cases d with
  | none => simp only [St.set, RR.ok.injEq] at h; subst h; exact ⟨by simp, by funext t; simp [updT], rfl, rfl, rfl, rfl, rfl, rfl⟩
  | some e =>
    simp only [St.set] at h
    split at h
    · rename_i he
      cases h
      exact ⟨fun t ht => by cases ht; exact he, tm_cons s e v, rfl, rfl, rfl, rfl, rfl, rfl⟩
    · cases h
theorem opOk_tm (h : TR n tm m ρ a) {r : Rd} (hr : r.tm = tm) (x : Operand) : OpOk m ρ r a x := by
  cases x with
  | tmp t => intro h1; simp only [opv, hr] at h1 ⊢; exact h.tms t h1
  | const v => exact opOk_const v
  | global g => intro h1; simp [opv] at h1
  | func f => intro h1; simp [opv] at h1
theorem applyE_ok {s s' : St} {d : Option Nat} {e : Eff} (h : applyE s n d e = .ok s') : ∃ v upd, delta s.nb e = some (v, upd) ∧ St.set { s with hps := upd ++ s.hps, nb := s.nb + 64 } n d v = .ok s' := by
  unfold applyE at h
  split at h
  · cases h
  · cases h
  · cases h
  · cases h
  · split at h
    · rename_i v upd hd; exact ⟨v, upd, hd, h⟩
    · cases h
/-- One operation that is wanted. -/
theorem op_wp (hE : EnvOk P env) (hF : Good P env.fs F) {s s' : St} (h : SRel F S0 base W0 Z n s m ρ a w) (hs : applyE s n o.dst (step env s.rd o.op) = .ok s')
    (hK : ∀ m' a' w', SRel F S0 base W0 Z n s' m' ρ a' w' → K a' w') : o.wp P a w K Q := by
  obtain ⟨v, upd, h1, h2⟩ := applyE_ok hs
  obtain ⟨hd, e1, e2, e3, e4, e5, e6, e7⟩ := set_spec h2
  have hf : ∀ g, s.rd.nb ≤ g → g < s.rd.nb + 64 → m g = none := fun g h1 _ => h.nb g h1
  have heff := step_sound (P := P) (r := s.rd) hE hF.1 h.cm (knB_ok h.kn) h.gm h.hr (fun g c hc => hc) hf o (fun x _ => opOk_tm h.tr rfl x)
  refine eff_wp hF h.tr h.hr hf h.cm hd heff h1 fun m' a' w' q1 q2 q3 q4 => hK m' a' w' ⟨?_, ?_, e3 ▸ h.kn, e4 ▸ h.gm, e5 ▸ h.cm, ?_, e7 ▸ h.nv, fun b hb => q1 0 b (h.z b hb), by rw [e6]; have := h.nb1; show 1 ≤ s.nb + 64; omega⟩
  · rw [e1]; exact q3
  · rw [show s'.hp = updA s.hp upd by unfold St.hp; rw [e2]; exact hp_append upd s.hps]; exact q4
  · intro g hg
    rw [e6] at hg
    simp only at hg
    rw [q2 g (by show ¬ (s.nb ≤ g ∧ g < s.nb + 64); omega)]
    exact h.nb g (by omega)
end
end Go.Proofs.Ytpicoedbkeljoaa.Sy
