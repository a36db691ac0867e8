/- A symbolic executor, second part: AN AGENT'S OWN TEXT. -/
import Derived.Test.YtpicoedbkeljoaaSyA
set_option linter.unusedVariables false
set_option linter.unusedSimpArgs false
namespace Go.Proofs.Ytpicoedbkeljoaa.Sy
open Go Go.RowKit
/-! ### 9. A region whose order is drawn -/
def memN (k : Nat) : List Nat → Bool
  | [] => false
  | j :: l => if j = k then true else memN k l
def Seg.same : Seg → Seg → Bool
  | .va a, .va b => decide (a = b)
  | .row a, .row b => pcsSame a b
  | _, _ => false
def LE.same : LE → LE → Bool
  | [], [] => true
  | a :: as, b :: bs => Seg.same a b && LE.same as bs
  | _, _ => false
def C.same : C → C → Bool
  | .ex a, .ex b => decide (a = b)
  | .bo a, .bo b => decide (a = b)
  | .so a, .so b => decide (a = b)
  | .op a, .op b => decide (a = b)
  | .kv a, .kv b => kvSame a b
  | .pt a b, .pt c d => decide (a = c ∧ b = d)
  | .hd a, .hd b => decide (a = b)
  | .ep a b c d, .ep a' b' c' d' => decide (a = a' ∧ b = b' ∧ c = c' ∧ d = d')
  | _, _ => false
def csSame : List C → List C → Bool
  | [], [] => true
  | a :: as, b :: bs => a.same b && csSame as bs
  | _, _ => false
def T1.same : T1 → T1 → Bool
  | .ce a, .ce b => a.same b
  | .ag a, .ag b => csSame a b
  | _, _ => false
def t1Same : List T1 → List T1 → Bool
  | [], [] => true
  | a :: as, b :: bs => a.same b && t1Same as bs
  | _, _ => false
def SV.same : SV → SV → Bool
  | .one a, .one b => a.same b
  | .tup a, .tup b => t1Same a b
  | .und, .und => true
  | _, _ => false
def HC.same : HC → HC → Bool
  | .blk a b, .blk c d => csSame a c && decide (b = d)
  | .own a b c, .own a' b' c' => LE.same a a' && decide (b = b' ∧ c = c')
  | .per a b c, .per a' b' c' => decide (a = a' ∧ b = b' ∧ c = c')
  | _, _ => false
def ohSame : Option HC → Option HC → Bool
  | some a, some b => a.same b
  | none, none => true
  | _, _ => false
theorem Seg.same_eq {a b : Seg} (h : a.same b = true) : a = b := by
  unfold Seg.same at h
  split at h <;> first | (simp_all; done) | (rw [pcsSame_eq h])
theorem LE.same_eq : ∀ {a b : LE}, LE.same a b = true → a = b
  | [], [], _ => rfl
  | a :: as, b :: bs, h => by
    simp only [LE.same, Bool.and_eq_true] at h
    rw [Seg.same_eq h.1, LE.same_eq h.2]
  | [], _ :: _, h => by simp [LE.same] at h
  | _ :: _, [], h => by simp [LE.same] at h
theorem C.same_eq {a b : C} (h : a.same b = true) : a = b := by
  unfold C.same at h
  split at h <;> first | (simp_all; done) | (rw [kvSame_eq h])
theorem csSame_eq : ∀ {a b : List C}, csSame a b = true → a = b
  | [], [], _ => rfl
  | a :: as, b :: bs, h => by
    simp only [csSame, Bool.and_eq_true] at h
    rw [C.same_eq h.1, csSame_eq h.2]
  | [], _ :: _, h => by simp [csSame] at h
  | _ :: _, [], h => by simp [csSame] at h
theorem T1.same_eq {a b : T1} (h : a.same b = true) : a = b := by
  unfold T1.same at h
  split at h
  · rw [C.same_eq h]
  · rw [csSame_eq h]
  · cases h
theorem t1Same_eq : ∀ {a b : List T1}, t1Same a b = true → a = b
  | [], [], _ => rfl
  | a :: as, b :: bs, h => by
    simp only [t1Same, Bool.and_eq_true] at h
    rw [T1.same_eq h.1, t1Same_eq h.2]
  | [], _ :: _, h => by simp [t1Same] at h
  | _ :: _, [], h => by simp [t1Same] at h
theorem SV.same_eq {a b : SV} (h : a.same b = true) : a = b := by
  unfold SV.same at h
  split at h
  · rw [T1.same_eq h]
  · rw [t1Same_eq h]
  · rfl
  · cases h
theorem HC.same_eq {a b : HC} (h : a.same b = true) : a = b := by
  unfold HC.same at h
  split at h
  · simp only [Bool.and_eq_true, decide_eq_true_eq] at h; rw [csSame_eq h.1, h.2]
  · simp only [Bool.and_eq_true, decide_eq_true_eq] at h; rw [LE.same_eq h.1, h.2.1, h.2.2]
  · simp only [decide_eq_true_eq] at h; rw [h.1, h.2.1, h.2.2]
  · cases h
theorem ohSame_eq {a b : Option HC} (h : ohSame a b = true) : a = b := by
  unfold ohSame at h
  split at h
  · rw [HC.same_eq h]
  · rfl
  · cases h
structure Ct where
  dsts : List (Nat × Nat)
  vals : List (Nat × SV)
  news : List (Nat × Nat × Option HC)
  puts : List (Nat × Nat × Option HC)
  pr : List (Nat × List Nat)
def Ct.prOf (ct : Ct) (j : Nat) : List Nat := (lk j ct.pr).getD []
def Ct.val (ct : Ct) (j : Nat) : SV := (lk j ct.vals).getD .und
def Ct.bef (ct : Ct) (s : St) (L : Nat → Bool) (g : Nat) : Option HC := match lk g ct.news with
  | some (i, c) => if L i = true then c else none
  | none => s.hp g
def Ct.rd (ct : Ct) (s : St) (j : Nat) : Rd where
  tm t := match lk t ct.dsts with
    | none => s.tm t
    | some k => if memN k (ct.prOf j) = true then ct.val k else if k = j ∨ memN j (ct.prOf k) = true then s.tm t else .und
  hp g := match lk g ct.puts with
    | some (k, c) => if memN k (ct.prOf j) = true then c else if k = j ∨ memN j (ct.prOf k) = true then ct.bef s (fun i => memN i (ct.prOf j)) g else none
    | none => ct.bef s (fun i => memN i (ct.prOf j)) g
  kn := knB s.kn
  nb := s.nb + 64 * j
  gm := s.gm
  cm := s.cm
  dr := true
def Ct.tmL (ct : Ct) (s : St) (L : Nat → Bool) : TmF := fun t => match lk t ct.dsts with
  | none => s.tm t
  | some k => if L k = true then ct.val k else s.tm t
def Ct.hpL (ct : Ct) (s : St) (L : Nat → Bool) : HpF := fun g => match lk g ct.puts with
  | some (k, c) => if L k = true then c else ct.bef s L g
  | none => ct.bef s L g
def Ct.valIs (ct : Ct) (j : Nat) (d : Option Nat) (v : SV) : Bool := match d with
  | none => true
  | some _ => (ct.val j).same v
def entIs (l : List (Nat × Nat × Option HC)) (g j : Nat) (h : Option HC) : Bool := match lk g l with
  | some (k, h') => decide (k = j) && ohSame h' h
  | none => false
def Ct.updOk (ct : Ct) (nb j : Nat) (upd : List (Nat × Option HC)) (g : Nat) : Bool := match lk g upd with
  | some h => (decide (nb ≤ g ∧ g < nb + 64) && entIs ct.news g j h && (match lk g ct.puts with
      | none => true
      | some p => memN j (ct.prOf p.1) && decide (p.1 ≠ j))) || entIs ct.puts g j h
  | none => true
def Ct.allIs (ct : Ct) (nb j : Nat) (upd : List (Nat × Option HC)) : Bool :=
  (upd.all fun x => ct.updOk nb j upd x.1) && (ct.news.all fun x => decide (x.2.1 ≠ j) || (lk x.1 upd).isSome) && (ct.puts.all fun x => decide (x.2.1 ≠ j) || (lk x.1 upd).isSome)
def Ct.chk (ct : Ct) (env : Env) (n : Nat) (ops : Array Oper) (s : St) (j : Nat) (o : Oper) : Bool :=
  (match o.dst with
    | none => true
    | some d => decide (d < n) && decide (lk d ct.dsts = some j)) &&
  (o.after.toList.all fun e => !Region.binds .any e || decide (e.on < j)) &&
  ((ct.prOf j).all fun x => o.after.toList.any fun e => Region.binds .any e && (decide (e.on = x) || memN x (ct.prOf e.on))) &&
  (match wantT (ct.rd s j).tm (knB s.kn) ops o with
    | .no => ct.valIs j o.dst (.tup []) && ct.allIs (s.nb + 64 * j) j []
    | .yes => match delta (s.nb + 64 * j) (step env (ct.rd s j) o.op) with
      | some (v, upd) => ct.valIs j o.dst v && ct.allIs (s.nb + 64 * j) j upd
      | none => false
    | _ => false)
def chkFrom (ct : Ct) (env : Env) (n : Nat) (ops : Array Oper) (s : St) : Nat → List Oper → Bool
  | _, [] => true
  | j, o :: l => ct.chk env n ops s j o && chkFrom ct env n ops s (j + 1) l
def Ct.chkAll (ct : Ct) (env : Env) (n : Nat) (ops : Array Oper) (s : St) : Bool :=
  chkFrom ct env n ops s 0 ops.toList &&
  (ct.dsts.all fun x => decide ((ops[x.2]?).bind (·.dst) = some x.1)) &&
  (ct.news.all fun x => decide (x.2.1 < ops.size ∧ s.nb ≤ x.1)) && (ct.puts.all fun x => decide (x.2.1 < ops.size))
def Ct.out (ct : Ct) (s : St) (size : Nat) : St :=
  { s with tms := (ct.dsts.map fun x => (x.1, ct.val x.2)) ++ s.tms, hps := (ct.puts.map fun x => (x.1, x.2.2)) ++ ((ct.news.map fun x => (x.1, x.2.2)) ++ s.hps), nb := s.nb + 64 * size }
theorem chkFrom_get {ct : Ct} {env : Env} {n : Nat} {ops : Array Oper} {s : St} : ∀ {l : List Oper} {k : Nat}, chkFrom ct env n ops s k l = true → ∀ (j : Nat) (o : Oper), l[j]? = some o → ct.chk env n ops s (k + j) o = true
  | o :: l, k, h, 0, p, hp => by
    simp only [chkFrom, Bool.and_eq_true] at h
    simp at hp
    subst hp
    exact h.1
  | o :: l, k, h, j + 1, p, hp => by
    simp only [chkFrom, Bool.and_eq_true] at h
    have := chkFrom_get h.2 j p (by simpa using hp)
    rwa [show k + 1 + j = k + (j + 1) by omega] at this
  | [], _, _, _, _, hp => by simp at hp
theorem lk_mem {α : Type} {k : Nat} {x : α} : ∀ {l : List (Nat × α)}, lk k l = some x → (k, x) ∈ l
  | [], h => by simp [lk] at h
  | (j, y) :: l, h => by
    simp only [lk] at h
    split at h
    · rename_i e; cases h; simp [e]
    · exact List.mem_cons_of_mem _ (lk_mem h)
theorem lk_map {α β : Type} {k : Nat} {f : α → β} : ∀ {l : List (Nat × α)}, lk k (l.map fun x => (x.1, f x.2)) = (lk k l).map f
  | [] => rfl
  | (j, y) :: l => by
    simp only [List.map_cons, lk]
    split
    · simp
    · exact lk_map
theorem memN_mem {k : Nat} : ∀ {l : List Nat}, memN k l = true → k ∈ l
  | [], h => by simp [memN] at h
  | j :: l, h => by
    simp only [memN] at h
    split at h
    · rename_i e; simp [e]
    · exact List.mem_cons_of_mem _ (memN_mem h)
section
variable {P : Program} {env : Env} {F : FnE} {n : Nat} {m : Bm} {ρ : List PD} {S0 : Nat → Prop} {base : Nat} {Z : Option Mb} {W0 w : World} {a : Act} {K : Act → World → Prop} {Q : Exit → Act → World → Prop} {ops : Array Oper} {s : St} {ct : Ct}
/-- What is listed brings its needs. -/
def Shut (ops : Array Oper) (L : Nat → Bool) : Prop := ∀ i o, ops[i]? = some o → L i = true → ∀ e ∈ o.after, Region.binds .any e = true → L e.on = true
structure COk (ct : Ct) (env : Env) (n : Nat) (ops : Array Oper) (s : St) : Prop where
  chk : ∀ j o, ops[j]? = some o → ct.chk env n ops s j o = true
  dsts : ∀ t k, lk t ct.dsts = some k → (ops[k]?).bind (·.dst) = some t
  news : ∀ x ∈ ct.news, x.2.1 < ops.size ∧ s.nb ≤ x.1
  puts : ∀ x ∈ ct.puts, x.2.1 < ops.size
theorem chkAll_ok (h : ct.chkAll env n ops s = true) : COk ct env n ops s := by
  simp only [Ct.chkAll, Bool.and_eq_true, List.all_eq_true, decide_eq_true_eq] at h
  obtain ⟨⟨⟨h1, h2⟩, h3⟩, h4⟩ := h
  exact ⟨fun j o ho => by simpa using chkFrom_get h1 j o (by simpa using ho), fun t k hk => h2 _ (lk_mem hk), h3, h4⟩
structure CkP (ct : Ct) (n : Nat) (j : Nat) (o : Oper) : Prop where
  dst : ∀ d, o.dst = some d → d < n ∧ lk d ct.dsts = some j
  back : ∀ e ∈ o.after, Region.binds .any e = true → e.on < j
  pr : ∀ x, memN x (ct.prOf j) = true → ∃ e ∈ o.after, Region.binds .any e = true ∧ (e.on = x ∨ memN x (ct.prOf e.on) = true)
theorem chk_p {j : Nat} {o : Oper} (h : ct.chk env n ops s j o = true) : CkP ct n j o := by
  simp only [Ct.chk, Bool.and_eq_true] at h
  obtain ⟨⟨⟨h1, h2⟩, h3⟩, _⟩ := h
  refine ⟨fun d hd => ?_, fun e he hb => ?_, fun x hx => ?_⟩
  · rw [hd] at h1
    simpa using h1
  · have := (List.all_eq_true.1 h2) e (by simpa using he)
    simpa [hb] using this
  · have := (List.all_eq_true.1 h3) x (memN_mem hx)
    obtain ⟨e, he, h4⟩ := List.any_eq_true.1 this
    simp only [Bool.and_eq_true, Bool.or_eq_true, decide_eq_true_eq] at h4
    exact ⟨e, by simpa using he, h4.1, h4.2⟩
theorem anc (hc : COk ct env n ops s) {L : Nat → Bool} (hs : Shut ops L) (hb : ∀ i, L i = true → i < ops.size) : ∀ (j : Nat) (o : Oper), ops[j]? = some o → (∀ e ∈ o.after, Region.binds .any e = true → L e.on = true) →
    ∀ x, memN x (ct.prOf j) = true → L x = true := by
  intro j
  induction j using Nat.strongRecOn with
  | _ j ih =>
    intro o ho hr x hx
    have hp := chk_p (hc.chk j o ho)
    obtain ⟨e, he, h1, h2⟩ := hp.pr x hx
    have h3 := hr e he h1
    rcases h2 with rfl | h2
    · exact h3
    · have h4 := hb _ h3
      exact ih e.on (hp.back e he h1) ops[e.on] (by simp [h4]) (hs _ _ (by simp [h4]) h3) x h2
theorem rd_tm {L : Nat → Bool} {j : Nat} (hA : ∀ k, memN k (ct.prOf j) = true → L k = true) (hB : ∀ k, memN j (ct.prOf k) = true → L k = false) (hj : L j = false) (t : Nat) (h : (ct.rd s j).tm t ≠ .und) : (ct.rd s j).tm t = ct.tmL s L t := by
  simp only [Ct.rd, Ct.tmL] at h ⊢
  cases hk : lk t ct.dsts with
  | none => rfl
  | some k =>
    rw [hk] at h
    simp only at h ⊢
    by_cases h1 : memN k (ct.prOf j) = true
    · rw [if_pos h1, if_pos (hA k h1)]
    · rw [if_neg h1] at h ⊢
      by_cases h2 : k = j ∨ memN j (ct.prOf k) = true
      · rw [if_pos h2]
        have : L k = false := by rcases h2 with rfl | h2; exact hj; exact hB k h2
        simp [this]
      · rw [if_neg h2] at h; exact absurd rfl h
theorem bef_le {L L' : Nat → Bool} (hA : ∀ k, L k = true → L' k = true) {g : Nat} {c : HC} (h : ct.bef s L g = some c) : ct.bef s L' g = some c := by
  unfold Ct.bef at h ⊢
  split at h
  · rename_i i d hi
    split at h
    · rename_i h1; simp [hA _ h1, h]
    · cases h
  · exact h
theorem rd_hp {L : Nat → Bool} {j : Nat} (hA : ∀ k, memN k (ct.prOf j) = true → L k = true) (hB : ∀ k, memN j (ct.prOf k) = true → L k = false) (hj : L j = false) (g : Nat) (c : HC) (h : (ct.rd s j).hp g = some c) : ct.hpL s L g = some c := by
  simp only [Ct.rd, Ct.hpL] at h ⊢
  cases hk : lk g ct.puts with
  | none => rw [hk] at h; exact bef_le hA h
  | some p =>
    obtain ⟨k, d⟩ := p
    rw [hk] at h
    simp only at h ⊢
    by_cases h1 : memN k (ct.prOf j) = true
    · rw [if_pos h1] at h; rw [if_pos (hA k h1)]; exact h
    · rw [if_neg h1] at h
      by_cases h2 : k = j ∨ memN j (ct.prOf k) = true
      · rw [if_pos h2] at h
        have : L k = false := by rcases h2 with rfl | h2; exact hj; exact hB k h2
        simp only [this, Bool.false_eq_true, if_false]
        exact bef_le hA h
      · rw [if_neg h2] at h; cases h
def addL (L : Nat → Bool) (j : Nat) : Nat → Bool := fun i => if i = j then true else L i
theorem tmL_add (hc : COk ct env n ops s) {L : Nat → Bool} {j : Nat} {o : Oper} (ho : ops[j]? = some o) {v : SV} (hv : ct.valIs j o.dst v = true) :
    ct.tmL s (addL L j) = updT (ct.tmL s L) o.dst v := by
  have hp := chk_p (hc.chk j o ho)
  funext t
  simp only [Ct.tmL, updT]
  cases hd : o.dst with
  | none =>
    simp only [reduceCtorEq, if_false]
    cases hk : lk t ct.dsts with
    | none => rfl
    | some k =>
      have h1 := hc.dsts t k hk
      have : k ≠ j := fun e => by subst e; rw [ho] at h1; simp [hd] at h1
      simp [addL, this]
  | some d =>
    obtain ⟨_, h2⟩ := hp.dst d hd
    rw [hd] at hv
    simp only [Ct.valIs] at hv
    simp only [Option.some.injEq]
    by_cases he : d = t
    · subst he
      rw [if_pos rfl, h2]
      simp [addL, SV.same_eq hv]
    · rw [if_neg he]
      cases hk : lk t ct.dsts with
      | none => rfl
      | some k =>
        have h1 := hc.dsts t k hk
        have : k ≠ j := fun e => by subst e; rw [ho] at h1; simp [hd] at h1; exact he h1
        simp [addL, this]
theorem entIs_eq {l : List (Nat × Nat × Option HC)} {g j : Nat} {h : Option HC} (he : entIs l g j h = true) : lk g l = some (j, h) := by
  unfold entIs at he
  split at he
  · rename_i k h' hk
    simp only [Bool.and_eq_true, decide_eq_true_eq] at he
    rw [hk, he.1, ohSame_eq he.2]
  · cases he
theorem hpL_add {L : Nat → Bool} {nb j : Nat} {upd : List (Nat × Option HC)} (h : ct.allIs nb j upd = true) (hB : ∀ k, memN j (ct.prOf k) = true → L k = false) : ct.hpL s (addL L j) = updA (ct.hpL s L) upd := by
  simp only [Ct.allIs, Bool.and_eq_true] at h
  obtain ⟨⟨h1, h2⟩, h3⟩ := h
  funext g
  simp only [updA]
  cases hl : lk g upd with
  | none =>
    have hb : ct.bef s (addL L j) g = ct.bef s L g := by
      unfold Ct.bef
      cases hk : lk g ct.news with
      | none => rfl
      | some p =>
        have := (List.all_eq_true.1 h2) _ (lk_mem hk)
        have : p.1 ≠ j := by simpa [hl] using this
        simp [addL, this]
    unfold Ct.hpL
    cases hk : lk g ct.puts with
    | none => exact hb
    | some p =>
      have := (List.all_eq_true.1 h3) _ (lk_mem hk)
      have : p.1 ≠ j := by simpa [hl] using this
      simp only [hb]
      simp [addL, this]
  | some x =>
    have h4 := (List.all_eq_true.1 h1) _ (lk_mem hl)
    simp only [Ct.updOk, hl, Bool.or_eq_true, Bool.and_eq_true] at h4
    rcases h4 with ⟨⟨_, h5⟩, h6⟩ | h5
    · have h7 := entIs_eq h5
      unfold Ct.hpL
      cases hk : lk g ct.puts with
      | none => simp [Ct.bef, h7, addL]
      | some p =>
        rw [hk] at h6
        simp only [Bool.and_eq_true, decide_eq_true_eq] at h6
        have h8 := hB p.1 h6.1
        simp [Ct.bef, h7, addL, h6.2, h8]
    · have h7 := entIs_eq h5
      simp [Ct.hpL, h7, addL]
structure DInv (ct : Ct) (ops : Array Oper) (s : St) (n : Nat) (ρ : List PD) (S0 : Nat → Prop) (base : Nat) (W0 : World) (Z : Option Mb) (L : Nat → Bool) (m : Bm) (a : Act) (w : World) : Prop where
  tr : TR n (ct.tmL s L) m ρ a
  hr : HR S0 base W0 (ct.hpL s L) m ρ w
  shut : Shut ops L
  lt : ∀ i, L i = true → i < ops.size
  nb : ∀ g, s.nb ≤ g → (∀ i, L i = true → ¬ (s.nb + 64 * i ≤ g ∧ g < s.nb + 64 * i + 64)) → m g = none
  z : ∀ b, Z = some b → m 0 = some b
  nb1 : 1 ≤ s.nb
theorem DInv.add {L : Nat → Bool} (h : DInv ct ops s n ρ S0 base W0 Z L m a w) {j : Nat} {o : Oper} (ho : ops[j]? = some o) (hr : ∀ e ∈ o.after, Region.binds .any e = true → L e.on = true)
    {m' : Bm} {a' : Act} {w' : World} (htr : TR n (ct.tmL s (addL L j)) m' ρ a') (hhr : HR S0 base W0 (ct.hpL s (addL L j)) m' ρ w') (hm : ∀ g, ¬ (s.nb + 64 * j ≤ g ∧ g < s.nb + 64 * j + 64) → m' g = m g) : DInv ct ops s n ρ S0 base W0 Z (addL L j) m' a' w' where
  tr := htr
  hr := hhr
  shut := by
    intro i p hp hi e he hb
    simp only [addL] at hi ⊢
    split
    · rfl
    · by_cases hij : i = j
      · subst hij; rw [ho] at hp; cases hp; exact hr e he hb
      · rw [if_neg hij] at hi; exact h.shut i p hp hi e he hb
  lt := by
    intro i hi
    simp only [addL] at hi
    split at hi
    · rename_i e; rw [e]; exact (Array.getElem?_eq_some_iff.1 ho).1
    · exact h.lt i hi
  nb := by
    intro g hg hn
    have h1 : ¬ (s.nb + 64 * j ≤ g ∧ g < s.nb + 64 * j + 64) := hn j (by simp [addL])
    rw [hm g h1]
    exact h.nb g hg fun i hi => hn i (by simp [addL, hi])
  z := fun b hb => by rw [hm 0 (by have := h.nb1; omega)]; exact h.z b hb
  nb1 := h.nb1
theorem drawOp (hE : EnvOk P env) (hF : Good P env.fs F) (hc : COk ct env n ops s) (hk : KnOk s.kn ρ) (hgm : GmOk s.gm ρ) (hcm : CmOk F s.cm ρ) {L : Nat → Bool} (h : DInv ct ops s n ρ S0 base W0 Z L m a w)
    {j : Nat} {o : Oper} (ho : ops[j]? = some o) (hj : L j = false) (hr : ∀ e ∈ o.after, Region.binds .any e = true → L e.on = true)
    (hK : ∀ m' a' w', DInv ct ops s n ρ S0 base W0 Z (addL L j) m' a' w' → K a' w') : wpOp P ops Q j K a w := by
  have hchk := hc.chk j o ho
  have hp := chk_p hchk
  have hA : ∀ k, memN k (ct.prOf j) = true → L k = true := anc hc h.shut h.lt j o ho hr
  have hB : ∀ k, memN j (ct.prOf k) = true → L k = false := fun k hjk => by
    cases hLk : L k with
    | false => rfl
    | true =>
      have h1 := h.lt k hLk
      have h2 := anc hc h.shut h.lt k ops[k] (by simp [h1]) (h.shut _ _ (by simp [h1]) hLk) j hjk
      rw [hj] at h2; cases h2
  have htm := rd_tm (s := s) hA hB hj
  have hhp := rd_hp (s := s) hA hB hj
  have hd : ∀ t, o.dst = some t → t < n := fun t ht => (hp.dst t ht).1
  have hT : ∀ t, (ct.rd s j).tm t ≠ .und → ((ct.rd s j).tm t).ev m ρ = some (a.tmps.getD t undef) := fun t ht => by
    rw [htm t ht]; exact h.tr.tms t (by rw [← htm t ht]; exact ht)
  have hw := wantT_ok (m := m) (a := a) (ops := ops) (o := o) (knB_ok hk) hT
  have hf : ∀ g, (ct.rd s j).nb ≤ g → g < (ct.rd s j).nb + 64 → m g = none := fun g h1 h2 => h.nb g (by have : (ct.rd s j).nb = s.nb + 64 * j := rfl; omega) fun i hi hh => by
    have h3 : (ct.rd s j).nb = s.nb + 64 * j := rfl
    have h4 : i = j := by omega
    rw [h4, hj] at hi; cases hi
  have heff := step_sound (P := P) (m := m) (ρ := ρ) (r := ct.rd s j) (a := a) (w := w) hE hF.1 hcm (knB_ok hk) hgm h.hr hhp hf o
    (fun x _ => by
      cases x with
      | tmp t => exact hT t
      | const v => exact opOk_const v
      | global g => intro h1; simp [opv] at h1
      | func f => intro h1; simp [opv] at h1)
  simp only [Ct.chk, Bool.and_eq_true] at hchk
  obtain ⟨_, hchk⟩ := hchk
  unfold wpOp
  simp only [ho]
  split at hchk
  · rename_i hy
    rw [hy] at hw
    simp only [hw, Bool.false_eq_true, if_false]
    simp only [Bool.and_eq_true] at hchk
    refine hK m _ w (h.add ho hr ?_ ?_ fun _ _ => rfl)
    · rw [tmL_add hc ho hchk.1]
      exact h.tr.put hd fun _ => rfl
    · rw [hpL_add hchk.2 hB]
      exact h.hr
  · rename_i hy
    rw [hy] at hw
    rw [if_pos hw]
    refine .inl ?_
    split at hchk
    · rename_i v upd hdl
      simp only [Bool.and_eq_true] at hchk
      refine eff_wp hF h.tr h.hr hf hcm hd heff hdl fun m' a' w' q1 q2 q3 q4 => hK m' a' w' (h.add ho hr ?_ ?_ q2)
      · rw [tmL_add hc ho hchk.1]; exact q3
      · rw [hpL_add hchk.2 hB]; exact q4
    · cases hchk
  · cases hchk
def listL (listed : Array Bool) : Nat → Bool := fun i => listed.getD i false
theorem listL_set {listed : Array Bool} {j : Nat} (hj : j < listed.size) : listL (listed.setIfInBounds j true) = addL (listL listed) j := by
  funext i
  unfold listL addL
  by_cases h : i = j
  · subst h
    simp [Array.getD_eq_getD_getElem?, Array.getElem?_setIfInBounds_self_of_lt hj]
  · rw [if_neg h]
    simp [Array.getD_eq_getD_getElem?, Array.getElem?_setIfInBounds_ne (Ne.symm h)]
theorem ready_min (hc : COk ct env n ops s) {listed : Array Bool} (hs : listed.size = ops.size) (h : Region.ready .any ops listed = []) : ∀ i, i < ops.size → listL listed i = true := by
  intro i
  induction i using Nat.strongRecOn with
  | _ i ih =>
    intro hi
    cases hL : listL listed i with
    | true => rfl
    | false =>
      have hp := chk_p (hc.chk i ops[i] (by simp [hi]))
      have : i ∈ Region.ready .any ops listed := mem_ready.2 ⟨by
          unfold listL at hL
          have h1 : i < listed.size := by omega
          simp [Array.getD_eq_getD_getElem?, h1] at hL ⊢
          exact hL, ops[i], by simp [hi], fun e he hb => ih e.on (hp.back e he hb) (by have := hp.back e he hb; omega)⟩
      rw [h] at this
      cases this
theorem draw_wp (hE : EnvOk P env) (hF : Good P env.fs F) (hc : COk ct env n ops s) (hk : KnOk s.kn ρ) (hgm : GmOk s.gm ρ) (hmm : CmOk F s.cm ρ)
    (hQ : ∀ m' a' w' L, (∀ i, i < ops.size → L i = true) → DInv ct ops s n ρ S0 base W0 Z L m' a' w' → Q .normal a' w') :
    ∀ (fuel : Nat) (listed : Array Bool) (m : Bm) (a : Act) (w : World), listed.size = ops.size → listed.count false ≤ fuel → DInv ct ops s n ρ S0 base W0 Z (listL listed) m a w → wpAny P .any ops Q fuel listed a w
  | 0, listed, m, a, w, hs, hf, h => by
    have hall : ∀ i, i < ops.size → listL listed i = true := fun i hi => by
      have h0 : listed.count false = 0 := by omega
      have h1 : false ∉ listed := Array.count_eq_zero.1 h0
      unfold listL
      have hi' : i < listed.size := by omega
      simp only [Array.getD_eq_getD_getElem?, Array.getElem?_eq_getElem hi', Option.getD_some]
      cases hb : listed[i] with
      | true => rfl
      | false => exact absurd (hb ▸ Array.getElem_mem hi') h1
    refine ⟨?_, hQ m a w _ hall h⟩
    cases hr : Region.ready .any ops listed with
    | nil => rfl
    | cons i l =>
      obtain ⟨h1, o, ho, _⟩ := mem_ready.1 (show i ∈ Region.ready .any ops listed by rw [hr]; simp)
      have hi : i < ops.size := (Array.getElem?_eq_some_iff.1 ho).1
      have h2 := hall i hi
      unfold listL at h2
      have hi' : i < listed.size := by omega
      simp [Array.getD_eq_getD_getElem?, hi'] at h1 h2
      rw [h1] at h2; cases h2
  | fuel + 1, listed, m, a, w, hs, hf, h => by
    refine ⟨fun hr => hQ m a w _ (ready_min hc hs hr) h, fun j hj => ?_⟩
    obtain ⟨h1, o, ho, hall⟩ := mem_ready.1 hj
    have hi : j < listed.size := by rw [hs]; exact (Array.getElem?_eq_some_iff.1 ho).1
    have hb : listed[j] = false := by simpa [Array.getD_eq_getD_getElem?, hi] using h1
    have hL : listL listed j = false := by unfold listL; simp [Array.getD_eq_getD_getElem?, hi, hb]
    refine drawOp hE hF hc hk hgm hmm h ho hL hall fun m' a' w' h' => ?_
    refine draw_wp hE hF hc hk hgm hmm hQ fuel _ m' a' w' (by simp [hs]) ?_ (by rw [listL_set hi]; exact h')
    have hcnt : (listed.setIfInBounds j true).count false = listed.count false - 1 := by
      rw [Array.setIfInBounds_def, dif_pos hi, Array.count_set]
      simp [hb]
    have : 0 < listed.count false := Array.count_pos_iff.2 (hb ▸ Array.getElem_mem hi)
    omega
theorem out_tm {L : Nat → Bool} (hc : COk ct env n ops s) (hL : ∀ i, i < ops.size → L i = true) : (ct.out s ops.size).tm = ct.tmL s L := by
  funext t
  simp only [Ct.out, St.tm, Ct.tmL, lk_append, lk_map]
  cases hk : lk t ct.dsts with
  | none => simp
  | some k =>
    have h1 := hc.dsts t k hk
    have h2 : k < ops.size := by
      cases h3 : ops[k]? with
      | none => rw [h3] at h1; simp at h1
      | some o => exact (Array.getElem?_eq_some_iff.1 h3).1
    simp [hL k h2]
theorem out_hp {L : Nat → Bool} (hc : COk ct env n ops s) (hL : ∀ i, i < ops.size → L i = true) : (ct.out s ops.size).hp = ct.hpL s L := by
  funext g
  simp only [Ct.out, St.hp, hpOf, Ct.hpL, lk_append, lk_map]
  cases hk : lk g ct.puts with
  | none =>
    simp only [Option.map_none, Option.none_or, Ct.bef]
    cases hn : lk g ct.news with
    | none => simp [St.hp, hpOf]
    | some p => simp [hL p.1 (hc.news _ (lk_mem hn)).1]
  | some p => simp [hL p.1 (hc.puts _ (lk_mem hk))]
theorem region_draw (hE : EnvOk P env) (hF : Good P env.fs F) (hmix : P.follows .mixedOrders = true) (hc : ct.chkAll env n ops s = true) {id : Nat} (h : SRel F S0 base W0 Z n s m ρ a w)
    (hQ : ∀ m' a' w', SRel F S0 base W0 Z n (ct.out s ops.size) m' ρ a' w' → Q .normal a' w') : (Code.region id ops true).wp P Q a w := by
  have hc := chkAll_ok hc
  refine wp_region_any hmix (draw_wp (S0 := S0) (base := base) (W0 := W0) (Z := Z) hE hF hc h.kn h.gm h.cm (fun m' a' w' L hL hd => hQ m' a' w' ⟨?_, ?_, h.kn, h.gm, h.cm, ?_, h.nv, hd.z, by have := h.nb1; show 1 ≤ s.nb + 64 * ops.size; omega⟩) ops.size _ m a _ (by simp) (by simp) ?_)
  · rw [out_tm hc hL]; exact hd.tr
  · rw [out_hp hc hL]; exact hd.hr
  · intro g hg
    have hg' : s.nb + 64 * ops.size ≤ g := hg
    exact hd.nb g (by omega) fun i hi => by have := hd.lt i hi; omega
  · have hz : listL (Array.replicate ops.size false) = fun _ => false := by
      funext i
      unfold listL
      simp only [Array.getD_eq_getD_getElem?, Array.getElem?_replicate]
      split <;> rfl
    rw [hz]
    have htm : ct.tmL s (fun _ => false) = s.tm := by
      funext t
      simp only [Ct.tmL]; split <;> simp
    have hhp : ct.hpL s (fun _ => false) = s.hp := by
      funext g
      have hb : ct.bef s (fun _ => false) g = s.hp g := by
        unfold Ct.bef
        cases hk : lk g ct.news with
        | none => rfl
        | some p =>
          have h1 := (hc.news _ (lk_mem hk)).2
          have h2 : m g = none := h.nb g h1
          simp [fresh_hp h.hr h2]
      simp only [Ct.hpL, hb]; split <;> simp
    refine ⟨by rw [htm]; exact h.tr, by rw [hhp]; exact h.hr.world ⟨rfl, rfl, rfl, Nat.le_refl _, fun _ _ => rfl⟩, fun i o _ hi => by simp at hi, fun i hi => by simp at hi, fun g hg _ => h.nb g hg, h.z, h.nb1⟩
end
/-! ### 10. Trees; loops, cut at their heads -/
inductive Tree where
  | ret (l : List PC) | retc (l : List C) | ite (c : B) (x y : Tree) | ask (f : Nat) (args : List PC) (ks : List K4) (k : Tree) | get (l : Nat) (i : E) (ks : List K4) (k : Tree)
  | fix (L : LE) (sz : Nat) (k : Tree) | cst (n : Nat) (k : Tree) | loop (args : List PC) (ks : List K4) (body : Tree) | back (d p0 : Nat) (args : List PC) | probe (key : Nat × Nat × Nat) (T s : St) | bad
/-- A value that is not looked into. -/
abbrev Ov := { v : Value // v.oneCell' = true }
def ovs (l : List Ov) : List PD := l.map fun x => .oth x.1
def iterF (step : (List PD → Option (List PD)) → List PD → Option (List PD)) : Nat → List PD → Option (List PD)
  | 0, _ => none
  | n + 1, ρ => step (iterF step n) ρ
def iterP (step : (List PD → Prop) → List PD → Prop) : Nat → List PD → Prop
  | 0, _ => False
  | n + 1, ρ => step (iterP step n) ρ
/-- What a tree answers; K: how many rounds a loop has at most. -/
def den (F : FnE) (K : Nat) : Tree → List (List PD → Option (List PD)) → List PD → Option (List PD)
  | .ret l, _, ρ => pds ρ l
  | .retc _, _, _ => none
  | .ite c x y, Js, ρ => (c.ev ρ).bind fun b => if b = true then den F K x Js ρ else den F K y Js ρ
  | .ask f args ks k, Js, ρ => (pds ρ args).bind fun ps => (F f ps).bind fun r => if K4.oks ks r = true then den F K k Js (ρ ++ r) else none
  | .get l i ks k, Js, ρ => match ρ[l]? with
    | some (.lst _ rows) => (i.ev ρ).bind fun iv => (rows[iv.toNat]?).bind fun row => if K4.oks ks row = true then den F K k Js (ρ ++ row) else none
    | _ => none
  | .fix L sz k, Js, ρ => (LE.rows ρ L).bind fun rows => den F K k Js (ρ ++ [.lst sz rows])
  | .cst _ _, _, _ => none
  | .loop args _ body, Js, ρ => (pds ρ args).bind fun vs => iterF (fun J ρ' => den F K body (J :: Js) ρ') K (ρ ++ vs)
  | .back d p0 args, Js, ρ => (pds ρ args).bind fun vs => match Js[d]? with
    | some J => J (ρ.take p0 ++ vs)
    | none => none
  | .probe _ _ _, _, _ => none
  | .bad, _, _ => none
def Den (F : FnE) (Φ : List PD → Prop) (Ψ : List C → Prop) : Tree → List (List PD → Prop) → List PD → Prop
  | .ret l, _, ρ => ∃ r, pds ρ l = some r ∧ Φ r
  | .retc l, _, _ => Ψ l
  | .ite c x y, Js, ρ => ∃ b, c.ev ρ = some b ∧ if b = true then Den F Φ Ψ x Js ρ else Den F Φ Ψ y Js ρ
  | .ask f args ks k, Js, ρ => ∃ ps r, pds ρ args = some ps ∧ F f ps = some r ∧ K4.oks ks r = true ∧ Den F Φ Ψ k Js (ρ ++ r)
  | .get l i ks k, Js, ρ => ∃ sz rows iv row, ρ[l]? = some (.lst sz rows) ∧ i.ev ρ = some iv ∧ rows[iv.toNat]? = some row ∧ K4.oks ks row = true ∧ Den F Φ Ψ k Js (ρ ++ row)
  | .fix L sz k, Js, ρ => ∃ rows, LE.rows ρ L = some rows ∧ Den F Φ Ψ k Js (ρ ++ [.lst sz rows])
  | .cst n k, Js, ρ => ∀ l : List Ov, l.length = n → Den F Φ Ψ k Js (ρ ++ ovs l)
  | .loop args _ body, Js, ρ => ∃ vs, pds ρ args = some vs ∧ ∃ n, iterP (fun J ρ' => Den F Φ Ψ body (J :: Js) ρ') n (ρ ++ vs)
  | .back d p0 args, Js, ρ => ∃ vs J, pds ρ args = some vs ∧ Js[d]? = some J ∧ J (ρ.take p0 ++ vs)
  | .probe _ _ _, _, _ => False
  | .bad, _, _ => False
/-! a loop's head: what varies is told by letters -/
inductive Hm where
  | i | b | s | o | own (et sz : Nat) | per (et sz : Nat)
structure LSpec where
  drop : List Nat
  dropg : List Nat
  hv : List (Nat × List (Nat × Hm))
  hb : List (Nat × List (Nat × Hm))
def Hm.cell (k g : Nat) : Hm → C
  | .i => .ex (.va k)
  | .b => .bo (.va k)
  | .s => .so (.va k)
  | .o => .op k
  | .own _ _ => .hd g
  | .per _ _ => .hd g
def Hm.kind : Hm → K4
  | .i => .i
  | .b => .b
  | .s => .s
  | .o => .o
  | .own et sz => .l et sz
  | .per et sz => .l et sz
structure TB where
  k : Nat
  g : Nat
  hps : List (Nat × Option HC)
  ks : List K4
def TB.add (b : TB) (m : Hm) : TB := ⟨b.k + 1, b.g + 1, match m with
  | .own et sz => (b.g, some (.own [.va b.k] et sz)) :: b.hps
  | .per et sz => (b.g, some (.per b.k et sz)) :: b.hps
  | _ => b.hps, b.ks ++ [m.kind]⟩
def hvCells (ms : List (Nat × Hm)) : Nat → List C → TB → List C × TB
  | _, [], b => ([], b)
  | i, c :: cs, b => match lk i ms with
    | some m => match hvCells ms (i + 1) cs (b.add m) with
      | (cs', b') => (m.cell b.k b.g :: cs', b')
    | none => match hvCells ms (i + 1) cs b with
      | (cs', b') => (c :: cs', b')
def hvSV (ms : List (Nat × Hm)) (v : SV) (b : TB) : SV × TB := match v with
  | .one (.ce c) => match hvCells ms 0 [c] b with
    | ([c'], b') => (.one (.ce c'), b')
    | _ => (v, b)
  | .one (.ag cs) => match hvCells ms 0 cs b with
    | (cs', b') => (.one (.ag cs'), b')
  | v => (v, b)
def isUnd : SV → Bool
  | .und => true
  | _ => false
def hvTms (sp : LSpec) (seen : List Nat) : List (Nat × SV) → TB → List (Nat × SV) × TB
  | [], b => ([], b)
  | (t, v) :: l, b => if memN t seen || memN t sp.drop || isUnd v then hvTms sp (t :: seen) l b else match (match lk t sp.hv with | some ms => hvSV ms v b | none => (v, b)) with
    | (v', b') => match hvTms sp (t :: seen) l b' with
      | (l', b'') => ((t, v') :: l', b'')
def hvHps (sp : LSpec) (seen : List Nat) : List (Nat × Option HC) → TB → List (Nat × Option HC) × TB
  | [], b => ([], b)
  | (g, h) :: l, b => if memN g seen || memN g sp.dropg then hvHps sp (g :: seen) l b else match h with
    | none => hvHps sp (g :: seen) l b
    | some (.blk cs t) => match (match lk g sp.hb with | some ms => hvCells ms 0 cs b | none => (cs, b)) with
      | (cs', b') => match hvHps sp (g :: seen) l b' with
        | (l', b'') => ((g, some (.blk cs' t)) :: l', b'')
    | some h => match hvHps sp (g :: seen) l b with
        | (l', b'') => ((g, some h) :: l', b'')
structure LCtx where
  T : St
  c : Code
  k : List Item
  p0 : Nat
  g0 : Nat
  lv : Nat
  key : Nat × Nat × Nat
  ks : List K4
def buildT (s : St) (sp : LSpec) (c : Code) (k : List Item) (lv : Nat) (key : Nat × Nat × Nat) : LCtx :=
  match hvTms sp [] s.tms ⟨s.nv, s.nb, [], []⟩ with
  | (tms, b) => match hvHps sp [] s.hps b with
    | (hps, b) => ⟨⟨tms, hps ++ b.hps, s.kn, s.gm, s.cm, b.k, b.g⟩, c, k, s.nv, s.nb, lv, key, b.ks⟩
inductive RT where
  | to (g : Nat) | nil
structure U where
  args : List (Nat × PC)
  rens : List (Nat × RT)
def uC (p0 g0 : Nat) (cT c : C) (u : U) : U := match cT, c with
  | .ex (.va k), .ex e => if p0 ≤ k then { u with args := (k, .ex e) :: u.args } else u
  | .bo (.va k), .bo e => if p0 ≤ k then { u with args := (k, .bo e) :: u.args } else u
  | .so (.va k), .so e => if p0 ≤ k then { u with args := (k, .so e) :: u.args } else u
  | .op k, .op j => if p0 ≤ k then { u with args := (k, .op j) :: u.args } else u
  | .op k, .kv v => if p0 ≤ k then { u with args := (k, .kv v) :: u.args } else u
  | .hd g, .hd g' => if g0 ≤ g then { u with rens := (g, .to g') :: u.rens } else u
  | .hd g, .kv _ => if g0 ≤ g then { u with rens := (g, .nil) :: u.rens } else u
  | _, _ => u
def uCs (p0 g0 : Nat) : List C → List C → U → U
  | c :: cs, d :: ds, u => uCs p0 g0 cs ds (uC p0 g0 c d u)
  | _, _, u => u
def uSV (p0 g0 : Nat) (a b : SV) (u : U) : U := match a, b with
  | .one x, .one y => uCs p0 g0 x.cells y.cells u
  | _, _ => u
def uTms (p0 g0 : Nat) (tm : TmF) : List (Nat × SV) → U → U
  | [], u => u
  | (t, v) :: l, u => uTms p0 g0 tm l (uSV p0 g0 v (tm t) u)
def uHps (p0 g0 : Nat) (hp : HpF) : List (Nat × Option HC) → U → U
  | [], u => u
  | (g, some (.blk cs _)) :: l, u => match hp g with
    | some (.blk ds _) => uHps p0 g0 hp l (uCs p0 g0 cs ds u)
    | _ => uHps p0 g0 hp l u
  | _ :: l, u => uHps p0 g0 hp l u
inductive UR where
  | ok (args : List PC) (rens : List (Nat × RT)) | name (g : Nat) | bad
def uEnd (p0 g0 : Nat) (hp : HpF) (nargs : Nat) : List (Nat × Option HC) → U → UR
  | [], u => match (List.range nargs).mapM (fun i => lk (p0 + i) u.args) with
    | some args => .ok args u.rens
    | none => .bad
  | (g, some (.own L _ sz)) :: l, u => if g0 ≤ g then (match L, lk g u.rens with
      | [.va k], some (.to g') => match hp g' with
        | some (.own [.va k'] _ _) => uEnd p0 g0 hp nargs l { u with args := (k, .li k') :: u.args }
        | some (.own [] _ _) => uEnd p0 g0 hp nargs l { u with args := (k, .nl sz) :: u.args }
        | some (.own _ _ _) => .name g'
        | _ => .bad
      | [.va k], some .nil => uEnd p0 g0 hp nargs l { u with args := (k, .nl sz) :: u.args }
      | _, _ => .bad) else uEnd p0 g0 hp nargs l { u with rens := (g, .to g) :: u.rens }
  | (g, some (.per k _ _)) :: l, u => if g0 ≤ g then (match lk g u.rens with
      | some (.to g') => match hp g' with
        | some (.per k' _ _) => uEnd p0 g0 hp nargs l { u with args := (k, .li k') :: u.args }
        | _ => .bad
      | _ => .bad) else uEnd p0 g0 hp nargs l { u with rens := (g, .to g) :: u.rens }
  | (g, _) :: l, u => uEnd p0 g0 hp nargs l { u with rens := (g, .to g) :: u.rens }
def uT (l : LCtx) (s : St) : UR := uEnd l.p0 l.g0 s.hp l.ks.length l.T.hps (uHps l.p0 l.g0 s.hp l.T.hps (uTms l.p0 l.g0 s.tm l.T.tms ⟨[], [(0, .to 0)]⟩))
/-! .. and that it fits, checked -/
def allLt (p : Nat) : List Nat → Bool
  | [] => true
  | k :: l => decide (k < p) && allLt p l
def E.lt (p : Nat) : E → Bool
  | .va k => decide (k < p)
  | .nu _ => true
  | .add a b | .sub a b | .mul a b | .quo a b | .rem a b | .and a b | .or a b | .xor a b | .mx a b | .mn a b => a.lt p && b.lt p
  | .shr a _ => a.lt p
  | .lens ks _ => allLt p ks
  | .slen k => decide (k < p)
def SE.lt (p : Nat) : SE → Bool
  | .va k => decide (k < p)
  | .co _ => true
def B.ltv (p : Nat) : B → Bool
  | .va k => decide (k < p)
  | .co _ => true
  | .lt a b | .le a b | .eq a b => a.lt p && b.lt p
  | .not a => B.ltv p a
  | .and a b | .eqb a b => B.ltv p a && B.ltv p b
  | .eqs a b => a.lt p && b.lt p
def PC.lt (p : Nat) : PC → Bool
  | .ex x => x.lt p
  | .bo x => B.ltv p x
  | .so x => x.lt p
  | .op k => decide (k < p)
  | .kv _ => true
  | .li k => decide (k < p)
  | .nl _ => true
def pcsLt (p : Nat) : List PC → Bool
  | [] => true
  | x :: l => x.lt p && pcsLt p l
def LE.lt (p : Nat) : LE → Bool
  | [] => true
  | .va k :: l => decide (k < p) && LE.lt p l
  | .row r :: l => pcsLt p r && LE.lt p l
def argIs (p0 : Nat) (args : List PC) (k : Nat) (c : PC) : Bool := decide (p0 ≤ k) && match args[k - p0]? with
  | some x => x.same c
  | none => false
def renTo (rens : List (Nat × RT)) (g g' : Nat) : Bool := match lk g rens with
  | some (.to x) => decide (x = g')
  | _ => false
def renNil (rens : List (Nat × RT)) (g : Nat) : Bool := match lk g rens with
  | some .nil => true
  | _ => false
def eVa : E → Option Nat
  | .va k => some k
  | _ => none
def bVa : B → Option Nat
  | .va k => some k
  | _ => none
def sVa : SE → Option Nat
  | .va k => some k
  | _ => none
def simC (p0 : Nat) (args : List PC) (rens : List (Nat × RT)) : C → C → Bool
  | .ex x, .ex y => (decide (x = y) && x.lt p0) || (match eVa x with | some k => argIs p0 args k (.ex y) | none => false)
  | .bo x, .bo y => (decide (x = y) && B.ltv p0 x) || (match bVa x with | some k => argIs p0 args k (.bo y) | none => false)
  | .so x, .so y => (decide (x = y) && x.lt p0) || (match sVa x with | some k => argIs p0 args k (.so y) | none => false)
  | .op k, .op j => decide (k = j ∧ k < p0) || argIs p0 args k (.op j)
  | .op k, .kv v => argIs p0 args k (.kv v)
  | .kv v, .kv v' => kvSame v v'
  | .pt g o, .pt g' o' => renTo rens g g' && decide (o = o')
  | .hd g, .hd g' => renTo rens g g'
  | .hd g, .kv (.slice none 0 0) => renNil rens g
  | .ep g i sz o, .ep g' i' sz' o' => renTo rens g g' && decide (i = i' ∧ sz = sz' ∧ o = o') && i.lt p0
  | _, _ => false
def simCs (p0 : Nat) (args : List PC) (rens : List (Nat × RT)) : List C → List C → Bool
  | [], [] => true
  | a :: as, b :: bs => simC p0 args rens a b && simCs p0 args rens as bs
  | _, _ => false
def simT1 (p0 : Nat) (args : List PC) (rens : List (Nat × RT)) : T1 → T1 → Bool
  | .ce a, .ce b => simC p0 args rens a b
  | .ag a, .ag b => simCs p0 args rens a b
  | _, _ => false
def simT1s (p0 : Nat) (args : List PC) (rens : List (Nat × RT)) : List T1 → List T1 → Bool
  | [], [] => true
  | a :: as, b :: bs => simT1 p0 args rens a b && simT1s p0 args rens as bs
  | _, _ => false
def simSV (p0 : Nat) (args : List PC) (rens : List (Nat × RT)) : SV → SV → Bool
  | .und, _ => true
  | .one a, .one b => simT1 p0 args rens a b
  | .tup a, .tup b => simT1s p0 args rens a b
  | _, _ => false
def simHC (p0 : Nat) (args : List PC) (rens : List (Nat × RT)) : HC → HC → Bool
  | .blk cs t, .blk ds u => simCs p0 args rens cs ds && decide (t = u)
  | .own L et sz, .own L' et' sz' => decide (et = et' ∧ sz = sz') && ((LE.same L L' && LE.lt p0 L) || (match L, L' with
    | [.va k], [.va k'] => argIs p0 args k (.li k')
    | [.va k], [] => argIs p0 args k (.nl sz)
    | _, _ => false))
  | .per k et sz, .per k' et' sz' => decide (et = et' ∧ sz = sz') && (decide (k = k' ∧ k < p0) || argIs p0 args k (.li k'))
  | _, _ => false
def simH (p0 : Nat) (args : List PC) (rens : List (Nat × RT)) (hp : HpF) (g : Nat) (h : HC) : Bool := match lk g rens with
  | some (.to g') => match hp g' with
    | some h' => simHC p0 args rens h h'
    | none => false
  | some .nil => match h with
    | .own [.va k] _ sz => argIs p0 args k (.nl sz) && decide (sz ≠ 0)
    | _ => false
  | none => false
def targets : List (Nat × RT) → List Nat
  | [] => []
  | (_, .to g) :: l => g :: targets l
  | (_, .nil) :: l => targets l
def nodupN : List Nat → Bool
  | [] => true
  | x :: l => !memN x l && nodupN l
def keysOf : List (Nat × RT) → List Nat
  | [] => []
  | (g, _) :: l => g :: keysOf l
def simAll (l : LCtx) (s : St) (args : List PC) (rens : List (Nat × RT)) : Bool :=
  (l.T.tms.all fun x => simSV l.p0 args rens x.2 (s.tm x.1)) && (l.T.hps.all fun x => match x.2 with
    | some h => simH l.p0 args rens s.hp x.1 h
    | none => true) && nodupN (targets rens) && nodupN (keysOf rens) && (rens.all fun x => decide (x.1 < l.T.nb)) && decide (l.T.nv = l.p0 + args.length) && renTo rens 0 0
/-! that a fitting head is a head -/
def Agree (p0 : Nat) (ρ ρ' : List PD) : Prop := ∀ k, k < p0 → ρ'[k]? = ρ[k]?
section
variable {p0 : Nat} {ρ ρ' : List PD}
theorem lensEv_agree (h : Agree p0 ρ ρ') : ∀ {ks : List Nat}, allLt p0 ks = true → lensEv ρ' ks = lensEv ρ ks
  | [], _ => rfl
  | k :: ks, hl => by
    simp only [allLt, Bool.and_eq_true, decide_eq_true_eq] at hl
    simp only [lensEv, h k hl.1, lensEv_agree h hl.2]
theorem E.agree (h : Agree p0 ρ ρ') : ∀ {x : E}, x.lt p0 = true → x.ev ρ' = x.ev ρ
  | .va k, hl => by simp only [E.lt, decide_eq_true_eq] at hl; simp only [E.ev, h k hl]
  | .nu _, _ => rfl
  | .add a b, hl => by simp only [E.lt, Bool.and_eq_true] at hl; simp only [E.ev, E.agree h hl.1, E.agree h hl.2]
  | .sub a b, hl => by simp only [E.lt, Bool.and_eq_true] at hl; simp only [E.ev, E.agree h hl.1, E.agree h hl.2]
  | .mul a b, hl => by simp only [E.lt, Bool.and_eq_true] at hl; simp only [E.ev, E.agree h hl.1, E.agree h hl.2]
  | .quo a b, hl => by simp only [E.lt, Bool.and_eq_true] at hl; simp only [E.ev, E.agree h hl.1, E.agree h hl.2]
  | .rem a b, hl => by simp only [E.lt, Bool.and_eq_true] at hl; simp only [E.ev, E.agree h hl.1, E.agree h hl.2]
  | .and a b, hl => by simp only [E.lt, Bool.and_eq_true] at hl; simp only [E.ev, E.agree h hl.1, E.agree h hl.2]
  | .or a b, hl => by simp only [E.lt, Bool.and_eq_true] at hl; simp only [E.ev, E.agree h hl.1, E.agree h hl.2]
  | .xor a b, hl => by simp only [E.lt, Bool.and_eq_true] at hl; simp only [E.ev, E.agree h hl.1, E.agree h hl.2]
  | .mx a b, hl => by simp only [E.lt, Bool.and_eq_true] at hl; simp only [E.ev, E.agree h hl.1, E.agree h hl.2]
  | .mn a b, hl => by simp only [E.lt, Bool.and_eq_true] at hl; simp only [E.ev, E.agree h hl.1, E.agree h hl.2]
  | .shr a n, hl => by simp only [E.lt] at hl; simp only [E.ev, E.agree h hl]
  | .lens ks c, hl => by simp only [E.lt] at hl; simp only [E.ev, lensEv_agree h hl]
  | .slen k, hl => by simp only [E.lt, decide_eq_true_eq] at hl; simp only [E.ev, h k hl]
theorem SE.agree (h : Agree p0 ρ ρ') : ∀ {x : SE}, x.lt p0 = true → x.ev ρ' = x.ev ρ
  | .va k, hl => by simp only [SE.lt, decide_eq_true_eq] at hl; simp only [SE.ev, h k hl]
  | .co _, _ => rfl
theorem B.agree (h : Agree p0 ρ ρ') : ∀ {x : B}, B.ltv p0 x = true → x.ev ρ' = x.ev ρ
  | .va k, hl => by simp only [B.ltv, decide_eq_true_eq] at hl; simp only [B.ev, h k hl]
  | .co _, _ => rfl
  | .lt a b, hl => by simp only [B.ltv, Bool.and_eq_true] at hl; simp only [B.ev, E.agree h hl.1, E.agree h hl.2]
  | .le a b, hl => by simp only [B.ltv, Bool.and_eq_true] at hl; simp only [B.ev, E.agree h hl.1, E.agree h hl.2]
  | .eq a b, hl => by simp only [B.ltv, Bool.and_eq_true] at hl; simp only [B.ev, E.agree h hl.1, E.agree h hl.2]
  | .not a, hl => by simp only [B.ltv] at hl; simp only [B.ev, B.agree h hl]
  | .and a b, hl => by simp only [B.ltv, Bool.and_eq_true] at hl; simp only [B.ev, B.agree h hl.1, B.agree h hl.2]
  | .eqb a b, hl => by simp only [B.ltv, Bool.and_eq_true] at hl; simp only [B.ev, B.agree h hl.1, B.agree h hl.2]
  | .eqs a b, hl => by simp only [B.ltv, Bool.and_eq_true] at hl; simp only [B.ev, SE.agree h hl.1, SE.agree h hl.2]
theorem PC.agree (h : Agree p0 ρ ρ') : ∀ {x : PC}, x.lt p0 = true → x.pd ρ' = x.pd ρ
  | .ex x, hl => by simp only [PC.pd, E.agree h (show x.lt p0 = true from hl)]
  | .bo x, hl => by simp only [PC.pd, B.agree h (show B.ltv p0 x = true from hl)]
  | .so x, hl => by simp only [PC.pd, SE.agree h (show x.lt p0 = true from hl)]
  | .op k, hl => by simp only [PC.lt, decide_eq_true_eq] at hl; simp only [PC.pd, h k hl]
  | .kv _, _ => rfl
  | .li k, hl => by simp only [PC.lt, decide_eq_true_eq] at hl; simp only [PC.pd, h k hl]
  | .nl _, _ => rfl
theorem pds_agree (h : Agree p0 ρ ρ') : ∀ {l : List PC}, pcsLt p0 l = true → pds ρ' l = pds ρ l
  | [], _ => rfl
  | x :: l, hl => by
    simp only [pcsLt, Bool.and_eq_true] at hl
    simp only [pds, PC.agree h hl.1, pds_agree h hl.2]
theorem LE.agree (h : Agree p0 ρ ρ') : ∀ {l : LE}, LE.lt p0 l = true → LE.rows ρ' l = LE.rows ρ l
  | [], _ => rfl
  | .va k :: l, hl => by
    simp only [LE.lt, Bool.and_eq_true, decide_eq_true_eq] at hl
    simp only [LE.rows, h k hl.1, LE.agree h hl.2]
  | .row r :: l, hl => by
    simp only [LE.lt, Bool.and_eq_true] at hl
    simp only [LE.rows, pds_agree h hl.1, LE.agree h hl.2]
theorem pds_get : ∀ {l : List PC} {vs : List PD}, pds ρ l = some vs → ∀ {i : Nat} {c : PC}, l[i]? = some c → ∃ v, vs[i]? = some v ∧ c.pd ρ = some v
  | c :: cs, vs, h, i, d, hi => by
    simp only [pds, Option.bind_eq_some_iff, Option.some.injEq] at h
    obtain ⟨v, hv, us, hus, rfl⟩ := h
    cases i with
    | zero => simp at hi; subst hi; exact ⟨v, rfl, hv⟩
    | succ i => simpa using pds_get hus (by simpa using hi)
  | [], _, _, i, _, hi => by simp at hi
theorem pds_length : ∀ {l : List PC} {vs : List PD}, pds ρ l = some vs → vs.length = l.length
  | [], vs, h => by simp only [pds, Option.some.injEq] at h; subst h; rfl
  | c :: cs, vs, h => by
    simp only [pds, Option.bind_eq_some_iff, Option.some.injEq] at h
    obtain ⟨v, hv, us, hus, rfl⟩ := h
    simp [pds_length hus]
/-- The letters at a loop's head, got from those of the way to it. -/
structure HeadOk (p0 : Nat) (args : List PC) (ρ ρ' : List PD) : Prop where
  ag : Agree p0 ρ ρ'
  arg : ∀ k c, argIs p0 args k c = true → ∃ v, ρ'[k]? = some v ∧ c.pd ρ = some v
theorem headOk {args : List PC} {vs : List PD} (hp : p0 ≤ ρ.length) (hv : pds ρ args = some vs) : HeadOk p0 args ρ (ρ.take p0 ++ vs) := by
  refine ⟨fun k hk => ?_, fun k c h => ?_⟩
  · rw [List.getElem?_append_left (by simp; omega), List.getElem?_take_of_lt hk]
  · simp only [argIs, Bool.and_eq_true, decide_eq_true_eq] at h
    obtain ⟨h1, h2⟩ := h
    split at h2
    · rename_i x hx
      obtain ⟨v, h3, h4⟩ := pds_get hv hx
      rw [PC.same_eq h2] at h4
      refine ⟨v, ?_, h4⟩
      rw [List.getElem?_append_right (by simp; omega)]
      simpa [Nat.min_eq_left hp] using h3
    · cases h2
def renM (m : Bm) (rens : List (Nat × RT)) : Bm := fun g => match lk g rens with
  | some (.to g') => m g'
  | some .nil => some (.ow none 0 0)
  | none => none
variable {args : List PC} {rens : List (Nat × RT)} {m : Bm}
theorem renTo_ok {g g' : Nat} (h : renTo rens g g' = true) : renM m rens g = m g' := by
  unfold renTo at h
  split at h
  · rename_i x hx; simp only [decide_eq_true_eq] at h; subst h; simp [renM, hx]
  · cases h
theorem renNil_ok {g : Nat} (h : renNil rens g = true) : renM m rens g = some (.ow none 0 0) := by
  unfold renNil at h
  split at h
  · rename_i hx; simp [renM, hx]
  · cases h
theorem simC_ok (hh : HeadOk p0 args ρ ρ') {a b : C} (h : simC p0 args rens a b = true) {v : Value} (hv : b.ev m ρ = some v) : a.ev (renM m rens) ρ' = some v := by
  unfold simC at h
  split at h
  · rename_i x y
    simp only [Bool.or_eq_true, Bool.and_eq_true, decide_eq_true_eq] at h
    rcases h with ⟨rfl, h⟩ | h
    · simp only [C.ev, E.agree hh.ag h]; exact hv
    · split at h
      · rename_i k hk
        obtain ⟨u, h1, h2⟩ := hh.arg k _ h
        simp only [C.ev, Option.map_eq_some_iff] at hv
        obtain ⟨n, hn, rfl⟩ := hv
        simp only [PC.pd, hn, Option.map_some, Option.some.injEq] at h2
        subst h2
        cases x <;> simp only [eVa, Option.some.injEq, reduceCtorEq] at hk
        subst hk
        simp [C.ev, E.ev, h1]
      · cases h
  · rename_i x y
    simp only [Bool.or_eq_true, Bool.and_eq_true, decide_eq_true_eq] at h
    rcases h with ⟨rfl, h⟩ | h
    · simp only [C.ev, B.agree hh.ag h]; exact hv
    · split at h
      · rename_i k hk
        obtain ⟨u, h1, h2⟩ := hh.arg k _ h
        simp only [C.ev, Option.map_eq_some_iff] at hv
        obtain ⟨n, hn, rfl⟩ := hv
        simp only [PC.pd, hn, Option.map_some, Option.some.injEq] at h2
        subst h2
        cases x <;> simp only [bVa, Option.some.injEq, reduceCtorEq] at hk
        subst hk
        simp [C.ev, B.ev, h1]
      · cases h
  · rename_i x y
    simp only [Bool.or_eq_true, Bool.and_eq_true, decide_eq_true_eq] at h
    rcases h with ⟨rfl, h⟩ | h
    · simp only [C.ev, SE.agree hh.ag h]; exact hv
    · split at h
      · rename_i k hk
        obtain ⟨u, h1, h2⟩ := hh.arg k _ h
        simp only [C.ev, Option.map_eq_some_iff] at hv
        obtain ⟨n, hn, rfl⟩ := hv
        simp only [PC.pd, hn, Option.map_some, Option.some.injEq] at h2
        subst h2
        cases x <;> simp only [sVa, Option.some.injEq, reduceCtorEq] at hk
        subst hk
        simp [C.ev, SE.ev, h1]
      · cases h
  · rename_i k j
    simp only [Bool.or_eq_true, decide_eq_true_eq] at h
    rcases h with ⟨rfl, h⟩ | h
    · simp only [C.ev, hh.ag k h]; exact hv
    · obtain ⟨u, h1, h2⟩ := hh.arg k _ h
      simp only [PC.pd] at h2
      simp only [C.ev] at hv
      split at h2
      · rename_i u' hu
        rw [hu] at hv
        split at h2
        · rename_i h3
          cases h2
          simp only [h3, if_true, Option.some.injEq] at hv
          subst hv
          simp [C.ev, h1, h3]
        · cases h2
      · cases h2
  · rename_i k v'
    obtain ⟨u, h1, h2⟩ := hh.arg k _ h
    simp only [PC.pd] at h2
    simp only [C.ev] at hv
    split at h2
    · rename_i h3
      cases h2
      simp only [h3, if_true, Option.some.injEq] at hv
      subst hv
      simp [C.ev, h1, h3]
    · cases h2
  · rw [kvSame_eq h]; exact hv
  · simp only [Bool.and_eq_true, decide_eq_true_eq] at h
    simp only [C.ev, renTo_ok h.1, h.2]; exact hv
  · simp only [C.ev, renTo_ok h]; exact hv
  · simp only [C.ev, renNil_ok h]
    simp only [C.ev, Value.oneCell', if_true] at hv
    exact hv
  · simp only [Bool.and_eq_true, decide_eq_true_eq] at h
    obtain ⟨⟨h1, rfl, rfl, rfl⟩, h2⟩ := h
    simp only [C.ev, renTo_ok h1, E.agree hh.ag h2]; exact hv
  · cases h
theorem simCs_ok (hh : HeadOk p0 args ρ ρ') : ∀ {a b : List C}, simCs p0 args rens a b = true → ∀ {vs : List Value}, evs m ρ b = some vs → evs (renM m rens) ρ' a = some vs
  | [], [], _, vs, hv => hv
  | a :: as, b :: bs, h, vs, hv => by
    simp only [simCs, Bool.and_eq_true] at h
    simp only [evs, Option.bind_eq_some_iff, Option.some.injEq] at hv
    obtain ⟨v, h1, us, h2, rfl⟩ := hv
    simp only [evs, simC_ok hh h.1 h1, simCs_ok hh h.2 h2, Option.bind_some]
  | [], _ :: _, h, _, _ => by simp [simCs] at h
  | _ :: _, [], h, _, _ => by simp [simCs] at h
theorem simT1_ok (hh : HeadOk p0 args ρ ρ') {a b : T1} (h : simT1 p0 args rens a b = true) {v : Value} (hv : b.ev m ρ = some v) : a.ev (renM m rens) ρ' = some v := by
  unfold simT1 at h
  split at h
  · exact simC_ok hh h hv
  · simp only [T1.ev, Option.map_eq_some_iff] at hv ⊢
    obtain ⟨vs, h1, h2⟩ := hv
    exact ⟨vs, simCs_ok hh h h1, h2⟩
  · cases h
theorem simT1s_ok (hh : HeadOk p0 args ρ ρ') : ∀ {a b : List T1}, simT1s p0 args rens a b = true → ∀ {vs : List Value}, T1.evs m ρ b = some vs → T1.evs (renM m rens) ρ' a = some vs
  | [], [], _, vs, hv => hv
  | a :: as, b :: bs, h, vs, hv => by
    simp only [simT1s, Bool.and_eq_true] at h
    simp only [T1.evs, Option.bind_eq_some_iff, Option.some.injEq] at hv
    obtain ⟨v, h1, us, h2, rfl⟩ := hv
    simp only [T1.evs, simT1_ok hh h.1 h1, simT1s_ok hh h.2 h2, Option.bind_some]
  | [], _ :: _, h, _, _ => by simp [simT1s] at h
  | _ :: _, [], h, _, _ => by simp [simT1s] at h
theorem simSV_ok (hh : HeadOk p0 args ρ ρ') {a b : SV} (h : simSV p0 args rens a b = true) (ha : a ≠ .und) : b ≠ .und ∧ ∀ {v : Value}, b.ev m ρ = some v → a.ev (renM m rens) ρ' = some v := by
  unfold simSV at h
  split at h
  · exact absurd rfl ha
  · exact ⟨by simp, fun hv => simT1_ok hh h hv⟩
  · refine ⟨by simp, fun hv => ?_⟩
    simp only [SV.ev, Option.map_eq_some_iff] at hv ⊢
    obtain ⟨vs, h1, h2⟩ := hv
    exact ⟨vs, simT1s_ok hh h h1, h2⟩
  · cases h
theorem simHC_ok {w : World} {S S' : Nat → Prop} {base : Nat} (hS : ∀ b, S b → S' b) (hh : HeadOk p0 args ρ ρ') {a b : HC} (h : simHC p0 args rens a b = true) {g g' : Nat} (hg : renM m rens g = m g') (hk : HOk w S base m ρ g' b) :
    a.wr = b.wr ∧ HOk w S' base (renM m rens) ρ' g a := by
  unfold simHC at h
  split at h
  · simp only [Bool.and_eq_true, decide_eq_true_eq] at h
    obtain ⟨h1, rfl⟩ := h
    obtain ⟨b, vs, e1, e2, e3⟩ := hk
    exact ⟨rfl, b, vs, by rw [hg]; exact e1, simCs_ok hh h1 e2, e3⟩
  · rename_i L et sz L' et' sz'
    simp only [Bool.and_eq_true, Bool.or_eq_true, decide_eq_true_eq] at h
    obtain ⟨⟨rfl, rfl⟩, h⟩ := h
    obtain ⟨a, n, c, rows, vals, e1, e2, e3, e4, e5, e6⟩ := hk
    refine ⟨rfl, a, n, c, rows, vals, by rw [hg]; exact e1, ?_, e3, e4.mono hS (fun _ _ => rfl), e5, e6⟩
    rcases h with ⟨h1, h2⟩ | h
    · rw [LE.agree hh.ag h2, LE.same_eq h1]; exact e2
    · split at h
      · rename_i k k'
        obtain ⟨v, h1, h2⟩ := hh.arg k _ h
        simp only [PC.pd] at h2
        simp only [LE.rows] at e2 ⊢
        split at h2
        · rename_i s' rs hq
          cases h2
          rw [hq] at e2
          rw [h1]
          exact e2
        · cases h2
      · rename_i k
        obtain ⟨v, h1, h2⟩ := hh.arg k _ h
        simp only [PC.pd, Option.some.injEq] at h2
        subst h2
        simp only [LE.rows, Option.some.injEq] at e2
        subst e2
        simp [LE.rows, h1]
      · cases h
  · rename_i k et sz k' et' sz'
    simp only [Bool.and_eq_true, Bool.or_eq_true, decide_eq_true_eq] at h
    obtain ⟨⟨rfl, rfl⟩, h⟩ := h
    obtain ⟨a, n, c, rows, e1, e2, e3⟩ := hk
    refine ⟨rfl, a, n, c, rows, by rw [hg]; exact e1, ?_, e3.mono hS (fun _ _ => rfl)⟩
    rcases h with ⟨rfl, h⟩ | h
    · rw [hh.ag k h]; exact e2
    · obtain ⟨v, h1, h2⟩ := hh.arg k _ h
      simp only [PC.pd, e2, Option.some.injEq] at h2
      rw [h1, ← h2]
  · cases h
theorem memN_mem' {k : Nat} : ∀ {l : List Nat}, k ∈ l → memN k l = true
  | j :: l, h => by
    simp only [memN]
    split
    · rfl
    · rename_i hne
      rcases List.mem_cons.1 h with e | h
      · exact absurd e.symm hne
      · exact memN_mem' h
theorem targets_inj : ∀ {l : List (Nat × RT)}, nodupN (targets l) = true → ∀ {g g' x : Nat}, lk g l = some (.to x) → lk g' l = some (.to x) → g = g'
  | [], _, g, g', x, h, _ => by simp [lk] at h
  | (k, .nil) :: l, hn, g, g', x, h, h' => by
    simp only [lk] at h h'
    split at h
    · cases h
    · split at h'
      · cases h'
      · exact targets_inj (l := l) hn h h'
  | (k, .to y) :: l, hn, g, g', x, h, h' => by
    simp only [targets, nodupN, Bool.and_eq_true, Bool.not_eq_true'] at hn
    have key : ∀ {l : List (Nat × RT)} {g x : Nat}, lk g l = some (.to x) → x ∈ targets l := by
      intro l
      induction l with
      | nil => intro g x h; simp [lk] at h
      | cons p l ih =>
        obtain ⟨k, r⟩ := p
        intro g x h
        simp only [lk] at h
        split at h
        · cases h; simp [targets]
        · cases r <;> simp [targets, ih h]
    simp only [lk] at h h'
    split at h <;> split at h'
    · rename_i e1 e2; rw [← e1, e2]
    · cases h
      have := memN_mem' (key h')
      rw [hn.1] at this; cases this
    · cases h'
      have := memN_mem' (key h)
      rw [hn.1] at this; cases this
    · exact targets_inj hn.2 h h'
end
/-! ### 11. The whole of a call -/
inductive RD where
  | fork (c : B) | getr (k : Nat) (i : E) (ks : List K4) | ask (f : Nat) (pcs : List PC) | fix (g : Nat) | bad | ok (ct : Ct)
def addNs : List Nat → List Nat → List Nat
  | [], l => l
  | x :: xs, l => addNs xs (if memN x l = true then l else x :: l)
def ancOf (ct : Ct) (o : Oper) : List Nat := o.after.toList.foldl (fun l e => if Region.binds .any e = true then addNs (e.on :: ct.prOf e.on) l else l) []
def parted (nb i : Nat) (new : Bool) : List (Nat × Option HC) → List (Nat × Nat × Option HC)
  | [] => []
  | (g, h) :: l => if decide (nb ≤ g) = new then (g, i, h) :: parted nb i new l else parted nb i new l
def Ct.log (ct : Ct) (s' : St) (nb i : Nat) (o : Oper) (upd : List (Nat × Option HC)) : Ct where
  dsts := match o.dst with
    | some d => (d, i) :: ct.dsts
    | none => ct.dsts
  vals := match o.dst with
    | some d => (i, s'.tm d) :: ct.vals
    | none => ct.vals
  news := parted nb i true upd ++ ct.news
  puts := parted nb i false upd ++ ct.puts
  pr := (i, ancOf ct o) :: ct.pr
def drawGo (env : Env) (n : Nat) (ops : Array Oper) (nb0 : Nat) : Nat → List Oper → St → Ct → RD
  | _, [], _, ct => .ok ct
  | i, o :: l, s, ct => match wantT s.tm (knB s.kn) ops o with
    | .yes => match step env { s.rd with nb := nb0 + 64 * i, dr := true } o.op with
      | e => match applyE { s with nb := nb0 + 64 * i } n o.dst e with
        | .ok s' => drawGo env n ops nb0 (i + 1) l s' (ct.log s' (nb0 + 64 * i) i o (match delta (nb0 + 64 * i) e with | some (_, upd) => upd | none => []))
        | .fork c => .fork c
        | .getr k i ks => .getr k i ks
        | .ask f pcs => .ask f pcs
        | .fix g => .fix g
        | .bad => .bad
    | .no => match s.set n o.dst (.tup []) with
      | .ok s' => drawGo env n ops nb0 (i + 1) l s' (ct.log s' (nb0 + 64 * i) i o [])
      | _ => .bad
    | .fork c => .fork c
    | .bad => .bad
def drawRun (env : Env) (n : Nat) (ops : Array Oper) (s : St) : RR := match drawGo env n ops s.nb 0 ops.toList s ⟨[], [], [], [], []⟩ with
  | .ok ct => if ct.chkAll env n ops s = true then .ok (ct.out s ops.size) else .bad
  | .fork c => .fork c
  | .getr k i ks => .getr k i ks
  | .ask f pcs => .ask f pcs
  | .fix g => .fix g
  | .bad => .bad
structure RelE where
  arg : Bool
  tp : List (Option C)
/-- What a special operation wants, or brings: letters (got as a call's answer is) and the state behind it. -/
inductive XR where
  | ask (f : Nat) (pcs : List PC) (ks : List K4) (s : St) | fix (g : Nat) | nm (g : Nat) | fork (c : B)
abbrev Ext := St → Oper → Option XR
def noExt : Ext := fun _ _ => none
structure Cfg where
  env : Env
  n : Nat
  res : List ResultVar
  sh : Option Sh
  rel : List (Nat × RelE)
  cuts : List Nat
  specs : List ((Nat × Nat × Nat) × LSpec)
  exts : Ext
def holes : List (Option C) → Nat
  | [] => 0
  | some _ :: l => holes l
  | none :: l => holes l + 1
def tpCells (k : Nat) : List (Option C) → List C
  | [] => []
  | some c :: l => c :: tpCells k l
  | none :: l => .op k :: tpCells (k + 1) l
def St.assume (s : St) (c : B) (x : Bool) : St := { s with kn := assumeB c x s.kn }
def St.askd (s : St) (f : Nat) (pcs : List PC) (ks : List K4) : St := { s with cm := (f, pcs, s.nv) :: s.cm, nv := s.nv + ks.length }
def St.getd (s : St) (k : Nat) (i : E) (ks : List K4) : St := { s with gm := (k, i, s.nv, ks) :: s.gm, nv := s.nv + ks.length }
def St.fixd (s : St) (g et sz : Nat) : St := { s with hps := (g, some (.per s.nv et sz)) :: s.hps, nv := s.nv + 1 }
def St.named (s : St) (g et sz : Nat) : St := { s with hps := (g, some (.own [.va s.nv] et sz)) :: s.hps, nv := s.nv + 1 }
def resOne (env : Env) (s : St) : ResultVar → Option T1
  | .tmp t => match s.tm t with
    | .one x => some x
    | _ => none
  | .cell a t => match opc s.rd (.tmp a), env.tys.lookup t with
    | some (.pt g off), some d => match s.rd.hp g with
      | some (.blk cs _) => if isAggD d.desc then (if off + d.sz ≤ cs.length then some (.ag ((cs.drop off).take d.sz)) else none)
        else match cs[off]? with
          | some c => some (.ce c)
          | none => none
      | _ => none
    | _, _ => none
def resAll (env : Env) (s : St) : List ResultVar → Option (List T1)
  | [] => some []
  | r :: rs => (resOne env s r).bind fun x => (resAll env s rs).bind fun l => some (x :: l)
inductive FR where
  | ok (l : List PC) | cs (l : List C) | fix (g : Nat) | bad
def shPcs (hp : HpF) : Sh → List T1 → PR
  | .one s, [t] => argsOf hp [s] [t]
  | .tup l, ts => if ts.length = 1 then .bad else argsOf hp l ts
  | _, _ => .bad
def Cfg.fin (cf : Cfg) (s : St) : FR := match resAll cf.env s cf.res with
  | some ts => match cf.sh with
    | some sh => match shPcs s.hp sh ts with
      | .ok l => .ok l
      | .fix g => .fix g
      | .bad => .bad
    | none => match ts with
      | [.ag l] => .cs l
      | _ => .bad
  | none => .bad
def reGhost (g : Nat) : Option C → Option C
  | some (.pt _ off) => some (.pt g off)
  | x => x
def relOf (cf : Cfg) (s : St) : Op → Option (List (Option C))
  | .call c => match c.callee with
    | .value (.func f) => match lk f cf.rel with
      | some e => match e.arg, c.args.toList with
        | false, [] => some e.tp
        | true, [x] => match opc s.rd x with
          | some (.pt g 0) => match s.hp g with
            | some (.blk _ _) => some (e.tp.map (reGhost g))
            | _ => none
          | _ => none
        | _, _ => none
      | none => none
    | _ => none
  | _ => none
def St.cstd (s : St) (n : Nat) (d : Option Nat) (tp : List (Option C)) : RR := St.set { s with nv := s.nv + holes tp } n d (.one (.ag (tpCells s.nv tp)))
def firstId : Code → Option Nat
  | .region id _ _ => some id
  | .seq a b => match firstId a with
    | some x => some x
    | none => firstId b
  | .cond _ a b => match firstId a with
    | some x => some x
    | none => firstId b
  | .block _ c => firstId c
  | .loop c => firstId c
  | _ => none
def lkS (k : Nat × Nat × Nat) : List ((Nat × Nat × Nat) × LSpec) → LSpec
  | [] => ⟨[], [], [], []⟩
  | (j, x) :: l => if j = k then x else lkS k l
def Cfg.cut (cf : Cfg) (c : Code) : Option Nat := match firstId c with
  | some id => if memN id cf.cuts = true then some id else none
  | none => none
def exitCtx (id : Nat) : List LCtx → Option (List LCtx × List Item)
  | [] => none
  | l :: ctx => match exitTo id l.k with
    | some k' => some (ctx, k')
    | none => exitCtx id ctx
def fixT (s : St) (g : Nat) (k : St → Tree) : Tree := match s.hp g with
  | some (.own L et sz) => .fix L sz (k (s.fixd g et sz))
  | _ => .bad
def nameT (s : St) (g : Nat) (k : St → Tree) : Tree := match s.hp g with
  | some (.own L et sz) => .fix L sz (k (s.named g et sz))
  | _ => .bad
def askT (cf : Cfg) (s : St) (f : Nat) (pcs : List PC) (k : St → Tree) : Tree := match cf.env.fs.lookup f with
  | some (_, sh) => .ask f pcs sh.ks (k (s.askd f pcs sh.ks))
  | none => .bad
def run (cf : Cfg) : Nat → Nat → List LCtx → St → List Item → Tree
  | 0, _, _, _, _ => .bad
  | f + 1, lv, [], s, [] => match cf.fin s with
    | .ok l => .ret l
    | .cs l => .retc l
    | .fix g => fixT s g fun s' => run cf f lv [] s' []
    | .bad => .bad
  | f + 1, lv, l :: ctx, s, [] => match uT l s with
    | .ok args rens => if simAll l s args rens = true then .back (lv - 1 - l.lv) l.p0 args else .probe l.key l.T s
    | .name g => nameT s g fun s' => run cf f lv (l :: ctx) s' []
    | .bad => .probe l.key l.T s
  | f + 1, lv, ctx, s, .code .skip :: k => run cf f lv ctx s k
  | f + 1, lv, ctx, s, .code (.label _) :: k => run cf f lv ctx s k
  | f + 1, lv, ctx, s, .code .ret :: k => match cf.fin s with
    | .ok l => .ret l
    | .cs l => .retc l
    | .fix g => fixT s g fun s' => run cf f lv ctx s' (.code .ret :: k)
    | .bad => .bad
  | f + 1, lv, ctx, s, .code (.seq x y) :: k => run cf f lv ctx s (.code x :: .code y :: k)
  | f + 1, lv, ctx, s, .code (.block id c) :: k => run cf f lv ctx s (.code c :: .inBlock id :: k)
  | f + 1, lv, ctx, s, .code (.loop c) :: k => match cf.cut c with
    | none => run cf f lv ctx s (.code c :: .inLoop c :: k)
    | some id => match buildT s (lkS (id, s.nb, s.nv) cf.specs) c k lv (id, s.nb, s.nv) with
      | l => match uT l s with
        | .ok args rens => if simAll l s args rens = true then .loop args l.ks (run cf f (lv + 1) (l :: ctx) l.T [.code c]) else .probe l.key l.T s
        | .name g => nameT s g fun s' => run cf f lv ctx s' (.code (.loop c) :: k)
        | .bad => .probe l.key l.T s
  | f + 1, lv, ctx, s, .code (.exit id) :: k => match exitTo id k with
    | some k' => run cf f lv ctx s k'
    | none => match exitCtx id ctx with
      | some (ctx', k') => run cf f lv ctx' s k'
      | none => .bad
  | f + 1, lv, ctx, s, .code (.cond c x y) :: k => match opc s.rd c with
    | some (.bo b) => match knB s.kn b with
      | some true => run cf f lv ctx s (.code x :: k)
      | some false => run cf f lv ctx s (.code y :: k)
      | none => .ite b (run cf f lv ctx (s.assume b true) (.code x :: k)) (run cf f lv ctx (s.assume b false) (.code y :: k))
    | _ => .bad
  | f + 1, lv, ctx, s, .code (.region id ops false) :: k => run cf f lv ctx s (.inRegion ops (List.range ops.size) :: k)
  | f + 1, lv, ctx, s, .code (.region id ops true) :: k => match drawRun cf.env cf.n ops s with
    | .ok s' => run cf f lv ctx s' k
    | .fork c => .ite c (run cf f lv ctx (s.assume c true) (.code (.region id ops true) :: k)) (run cf f lv ctx (s.assume c false) (.code (.region id ops true) :: k))
    | .getr j i ks => .get j i ks (run cf f lv ctx (s.getd j i ks) (.code (.region id ops true) :: k))
    | .ask g pcs => askT cf s g pcs fun s' => run cf f lv ctx s' (.code (.region id ops true) :: k)
    | .fix g => fixT s g fun s' => run cf f lv ctx s' (.code (.region id ops true) :: k)
    | .bad => .bad
  | f + 1, lv, ctx, s, .inRegion _ [] :: k => run cf f lv ctx s k
  | f + 1, lv, ctx, s, .inRegion ops (i :: is) :: k => match ops[i]? with
    | none => .bad
    | some o => match wantT s.tm (knB s.kn) ops o with
      | .yes => match relOf cf s o.op with
        | some tp => match s.cstd cf.n o.dst tp with
          | .ok s' => .cst (holes tp) (run cf f lv ctx s' (.inRegion ops is :: k))
          | _ => .bad
        | none => match cf.exts s o with
          | some (.ask g pcs ks s') => .ask g pcs ks (run cf f lv ctx s' (.inRegion ops is :: k))
          | some (.fix g) => fixT s g fun s' => run cf f lv ctx s' (.inRegion ops (i :: is) :: k)
          | some (.nm g) => nameT s g fun s' => run cf f lv ctx s' (.inRegion ops (i :: is) :: k)
          | some (.fork c) => .ite c (run cf f lv ctx (s.assume c true) (.inRegion ops (i :: is) :: k)) (run cf f lv ctx (s.assume c false) (.inRegion ops (i :: is) :: k))
          | none => match applyE s cf.n o.dst (step cf.env s.rd o.op) with
            | .ok s' => run cf f lv ctx s' (.inRegion ops is :: k)
            | .fork c => .ite c (run cf f lv ctx (s.assume c true) (.inRegion ops (i :: is) :: k)) (run cf f lv ctx (s.assume c false) (.inRegion ops (i :: is) :: k))
            | .getr j x ks => .get j x ks (run cf f lv ctx (s.getd j x ks) (.inRegion ops (i :: is) :: k))
            | .ask g pcs => askT cf s g pcs fun s' => run cf f lv ctx s' (.inRegion ops (i :: is) :: k)
            | .fix g => fixT s g fun s' => run cf f lv ctx s' (.inRegion ops (i :: is) :: k)
            | .bad => .bad
      | .no => match s.set cf.n o.dst (.tup []) with
        | .ok s' => run cf f lv ctx s' (.inRegion ops is :: k)
        | _ => .bad
      | .fork c => .ite c (run cf f lv ctx (s.assume c true) (.inRegion ops (i :: is) :: k)) (run cf f lv ctx (s.assume c false) (.inRegion ops (i :: is) :: k))
      | .bad => .bad
  | f + 1, lv, ctx, s, .inBlock _ :: k => run cf f lv ctx s k
  | f + 1, lv, ctx, s, .inLoop c :: k => run cf f lv ctx s (.code c :: .inLoop c :: k)
  | _ + 1, _, _, _, _ => .bad
/-- A cell as a call hands it out: an address is not told, but in the block that came in. -/
def tpMatch (m : Bm) : List (Option C) → List Value → Prop
  | [], [] => True
  | some c :: l, v :: vs => c.ev m [] = some v ∧ tpMatch m l vs
  | none :: l, v :: vs => v.oneCell' = true ∧ tpMatch m l vs
  | _, _ => False
def oneM (b : Nat) : Bm := fun g => if g = 0 then some (.bk b) else none
def GoodR (P : Program) (rel : List (Nat × RelE)) : Prop := ∀ f e, lk f rel = some e → (∀ args w, (callFunc f args).run P w = .ok (.enter f args) w) ∧
  ∀ (b : Nat) w, (e.arg = true → b < w.heap.size) → Calls P f (if e.arg = true then #[.pointer (some ⟨b, 0, none⟩)] else #[]) w fun
    | .returned u, w' => (∃ vs, tpMatch (oneM b) e.tp vs ∧ u = .agg vs.toArray) ∧ Below w.heap.size w w'
    | _, _ => False
theorem oneM_ev {m : Bm} {ρ : List PD} {b g : Nat} (hg : m g = some (.bk b)) {c : C} {v : Value} (h : c.ev (oneM b) [] = some v) : ∃ d, reGhost g (some c) = some d ∧ d.ev m ρ = some v := by
  cases c with
  | ex x =>
    refine ⟨.ex x, rfl, ?_⟩
    exact map1 (E.mono (ρ := []) (fun _ _ h => by simp at h) x) h
  | bo x => exact ⟨.bo x, rfl, map1 (B.mono (ρ := []) (fun _ _ h => by simp at h) x) h⟩
  | so x => exact ⟨.so x, rfl, map1 (SE.mono (ρ := []) (fun _ _ h => by simp at h) x) h⟩
  | op k => simp [C.ev] at h
  | kv u => exact ⟨.kv u, rfl, h⟩
  | pt g' off =>
    refine ⟨.pt g off, rfl, ?_⟩
    simp only [C.ev, oneM] at h
    split at h
    · rename_i q hq
      split at hq
      · cases hq; simpa [C.ev, hg] using h
      · cases hq
    · cases h
  | hd g' =>
    simp only [C.ev, oneM] at h
    split at h
    · rename_i hq; split at hq <;> cases hq
    · cases h
  | ep g' i sz off =>
    simp only [C.ev, oneM, epV] at h
    split at h
    · rename_i hq _; split at hq <;> cases hq
    · cases h
theorem reGhost_none {g : Nat} : reGhost g none = none := rfl
theorem tpMatch_arg {m : Bm} {b g : Nat} (hg : m g = some (.bk b)) : ∀ {tp : List (Option C)} {vs : List Value}, tpMatch (oneM b) tp vs → ∃ l : List Ov, l.length = holes (tp.map (reGhost g)) ∧ ∀ (ρ : List PD) (k : Nat), At ρ k (ovs l) → evs m ρ (tpCells k (tp.map (reGhost g))) = some vs
  | [], [], _ => ⟨[], rfl, fun _ _ _ => rfl⟩
  | some c :: tp, v :: vs, h => by
    obtain ⟨l, h1, h2⟩ := tpMatch_arg hg h.2
    have hd0 : ∃ d, reGhost g (some c) = some d := by cases c <;> exact ⟨_, rfl⟩
    obtain ⟨d, hd⟩ := hd0
    refine ⟨l, by simpa [holes, hd] using h1, fun ρ k hat => ?_⟩
    obtain ⟨d', hd', hc⟩ := oneM_ev (ρ := ρ) hg h.1
    rw [hd] at hd'
    cases hd'
    simp only [List.map_cons, hd, tpCells, evs, hc, h2 ρ k hat, Option.bind_some]
  | none :: tp, v :: vs, h => by
    obtain ⟨l, h1, h2⟩ := tpMatch_arg hg h.2
    refine ⟨⟨v, h.1⟩ :: l, by simp [holes, h1, reGhost], fun ρ k hat => ?_⟩
    have h0 : ρ[k]? = some (.oth v) := hat 0 _ rfl
    have hc : (C.op k).ev m ρ = some v := by simp [C.ev, h0, h.1]
    simp only [List.map_cons, reGhost, tpCells, evs, hc, h2 ρ (k + 1) hat.tail, Option.bind_some]
  | [], _ :: _, h => by simp [tpMatch] at h
  | some _ :: _, [], h => by simp [tpMatch] at h
  | none :: _, [], h => by simp [tpMatch] at h
def noPt : List (Option C) → Bool
  | [] => true
  | some (.pt _ _) :: _ => false
  | _ :: l => noPt l
theorem tpMatch_ev {m : Bm} {b : Nat} : ∀ {tp : List (Option C)} {vs : List Value}, noPt tp = true → tpMatch (oneM b) tp vs → ∃ l : List Ov, l.length = holes tp ∧ ∀ (ρ : List PD) (k : Nat), At ρ k (ovs l) → evs m ρ (tpCells k tp) = some vs
  | [], [], _, _ => ⟨[], rfl, fun _ _ _ => rfl⟩
  | some c :: tp, v :: vs, hn, h => by
    obtain ⟨l, h1, h2⟩ := tpMatch_ev (m := m) (tp := tp) (by cases c <;> first | exact hn | cases hn) h.2
    refine ⟨l, h1, fun ρ k hat => ?_⟩
    have hc : c.ev m ρ = some v := by
      cases c with
      | pt g off => cases hn
      | hd g' =>
        have h := h.1
        simp only [C.ev, oneM] at h
        split at h
        · rename_i hq; split at hq <;> cases hq
        · cases h
      | ep g' i sz off =>
        have h := h.1
        simp only [C.ev, oneM, epV] at h
        split at h
        · rename_i hq _ _; split at hq <;> cases hq
        · cases h
      | ex x => exact map1 (E.mono (ρ := []) (fun _ _ h => by simp at h) x) h.1
      | bo x => exact map1 (B.mono (ρ := []) (fun _ _ h => by simp at h) x) h.1
      | so x => exact map1 (SE.mono (ρ := []) (fun _ _ h => by simp at h) x) h.1
      | op k => have h := h.1; simp [C.ev] at h
      | kv u => exact h.1
    simp only [tpCells, evs, hc, h2 ρ k hat, Option.bind_some]
  | none :: tp, v :: vs, hn, h => by
    obtain ⟨l, h1, h2⟩ := tpMatch_ev (m := m) (tp := tp) hn h.2
    refine ⟨⟨v, h.1⟩ :: l, by simp [holes, h1], fun ρ k hat => ?_⟩
    have h0 : ρ[k]? = some (.oth v) := hat 0 _ rfl
    have hc : (C.op k).ev m ρ = some v := by simp [C.ev, h0, h.1]
    simp only [tpCells, evs, hc, h2 ρ (k + 1) hat.tail, Option.bind_some]
  | [], _ :: _, _, h => by simp [tpMatch] at h
  | some _ :: _, [], _, h => by simp [tpMatch] at h
  | none :: _, [], _, h => by simp [tpMatch] at h
section
variable {P : Program} {env : Env} {F : FnE} {n : Nat} {m : Bm} {ρ : List PD} {S0 : Nat → Prop} {base : Nat} {Z : Option Mb} {W0 w : World} {a : Act} {s : St}
theorem drawRun_ok {ops : Array Oper} {s' : St} (h : drawRun env n ops s = .ok s') : ∃ ct : Ct, ct.chkAll env n ops s = true ∧ s' = ct.out s ops.size := by
  unfold drawRun at h
  split at h
  · split at h
    · rename_i h1; cases h; exact ⟨_, h1, rfl⟩
    · cases h
  all_goals cases h
theorem GmOk.mono {gm : List (Nat × E × Nat × List K4)} {ρ' : List PD} (h : GmOk gm ρ) (hp : Pre ρ ρ') : GmOk gm ρ' := fun k i k0 ks hm => by
  obtain ⟨sz, rows, iv, row, h1, h2, h3, h4, h5⟩ := h k i k0 ks hm
  exact ⟨sz, rows, iv, row, hp _ _ h1, E.mono hp _ _ h2, h3, h4.mono hp, h5⟩
theorem CmOk.mono {cm : List (Nat × List PC × Nat)} {ρ' : List PD} (h : CmOk F cm ρ) (hp : Pre ρ ρ') : CmOk F cm ρ' := fun f pcs k0 hm => by
  obtain ⟨ps, r, h1, h2, h3⟩ := h f pcs k0 hm
  exact ⟨ps, r, pds_mono hp _ _ h1, h2, h3.mono hp⟩
theorem KnOk.mono {kn : List (B × Bool)} {ρ' : List PD} (h : KnOk kn ρ) (hp : Pre ρ ρ') : KnOk kn ρ' := fun c x hm => B.mono hp _ _ (h c x hm)
theorem at_end (ρ l : List PD) : At (ρ ++ l) ρ.length l := fun j t hj => by
  rw [List.getElem?_append_right (by omega)]
  simpa using hj
theorem SRel.assume (h : SRel F S0 base W0 Z n s m ρ a w) {c : B} {x : Bool} (hc : c.ev ρ = some x) : SRel F S0 base W0 Z n (s.assume c x) m ρ a w :=
  ⟨h.tr, h.hr, assumeB_ok c x _ ρ h.kn hc, h.gm, h.cm, h.nb, h.nv, h.z, h.nb1⟩
theorem SRel.askd (h : SRel F S0 base W0 Z n s m ρ a w) {f : Nat} {pcs : List PC} {ks : List K4} {ps r : List PD} (h1 : pds ρ pcs = some ps) (h2 : F f ps = some r) (h3 : K4.oks ks r = true) :
    SRel F S0 base W0 Z n (s.askd f pcs ks) m (ρ ++ r) a w := by
  have hp := Pre.append ρ r
  refine ⟨h.tr.mono (Bm.le_refl _) hp, h.hr.weak hp fun _ _ h => h, h.kn.mono hp, h.gm.mono hp, ?_, h.nb, by simp [St.askd, h.nv, K4.oks_length h3], h.z, h.nb1⟩
  intro g as k hm
  simp only [St.askd] at hm
  rcases List.mem_cons.1 hm with e | hm
  · cases e
    exact ⟨ps, r, pds_mono hp _ _ h1, h2, by rw [← h.nv]; exact at_end ρ r⟩
  · exact h.cm.mono hp g as k hm
theorem SRel.getd (h : SRel F S0 base W0 Z n s m ρ a w) {k : Nat} {i : E} {ks : List K4} {sz : Nat} {rows : List (List PD)} {iv : Int} {row : List PD} (h1 : ρ[k]? = some (.lst sz rows)) (h2 : i.ev ρ = some iv) (h3 : rows[iv.toNat]? = some row) (h4 : K4.oks ks row = true) :
    SRel F S0 base W0 Z n (s.getd k i ks) m (ρ ++ row) a w := by
  have hp := Pre.append ρ row
  refine ⟨h.tr.mono (Bm.le_refl _) hp, h.hr.weak hp fun _ _ h => h, h.kn.mono hp, ?_, h.cm.mono hp, h.nb, by simp [St.getd, h.nv, K4.oks_length h4], h.z, h.nb1⟩
  intro k' i' k0 ks' hm
  simp only [St.getd] at hm
  rcases List.mem_cons.1 hm with e | hm
  · cases e
    exact ⟨sz, rows, iv, row, hp _ _ h1, E.mono hp _ _ h2, h3, by rw [← h.nv]; exact at_end ρ row, h4⟩
  · exact h.gm.mono hp k' i' k0 ks' hm
theorem hp_one (s : St) (g : Nat) (h : Option HC) (nv : Nat) : St.hp { s with hps := (g, h) :: s.hps, nv := nv } = updA s.hp [(g, h)] := hp_append [(g, h)] s.hps
theorem SRel.fixd (h : SRel F S0 base W0 Z n s m ρ a w) {g et sz : Nat} {L : LE} {rows : List (List PD)} (hg : s.hp g = some (.own L et sz)) (hL : LE.rows ρ L = some rows) : SRel F S0 base W0 Z n (s.fixd g et sz) m (ρ ++ [.lst sz rows]) a w := by
  have hp := Pre.append ρ [.lst sz rows]
  refine ⟨h.tr.mono (Bm.le_refl _) hp, ?_, h.kn.mono hp, h.gm.mono hp, h.cm.mono hp, h.nb, by simp [St.fixd, h.nv], h.z, h.nb1⟩
  unfold St.fixd
  rw [hp_one]
  obtain ⟨ad, n', c, rows', vals, e1, e2, rfl, e4, e5, e6⟩ := h.hr.hps g _ hg
  rw [hL] at e2
  cases e2
  refine h.hr.upd (Bm.le_refl _) hp (Below.refl _ _) none (by simp) (fun _ _ _ => rfl) (fun g' => g' = g) (fun g' c' hc hne => ?_) (fun g' c' b hg' hc hwr hb => ?_) (fun g' g'' c c' b h1 h2 _ _ _ _ _ _ => by rw [h1, h2]) (fun hS hW g' c' hg' hc => ?_)
  · simp only [updA, lk] at hc
    rw [if_neg (Ne.symm hne)] at hc
    exact ⟨hc, by simp⟩
  · subst hg'
    simp only [updA, lk, if_pos, Option.some.injEq] at hc
    subst hc; cases hwr
  · subst hg'
    simp only [updA, lk, if_pos, Option.some.injEq] at hc
    subst hc
    refine ⟨ad, rows.length, c, rows, e1, by rw [← h.nv]; simp, ?_⟩
    have hmax : rows.length ≤ maxLen := by
      rcases e5.2 with ⟨_, q⟩ | ⟨g2, cap, cur, _, _, _, q1, q2, _⟩
      · omega
      · omega
    have hcap : rows.length ≤ c := by
      rcases e5.2 with ⟨q1, q2⟩ | ⟨g2, cap, cur, q, _, _, q1, q2, _⟩
      · omega
      · simp only [Value.slice.injEq] at q; omega
    refine Rep.of_list hcap hmax (fun e => ?_) (fun _ x e => ?_) (e4.mono hS hW) (fun hne => ?_)
    · subst e
      rcases e5.2 with ⟨q1, q2⟩ | ⟨g2, cap, cur, q, _⟩
      · simp only [Value.slice.injEq, true_and] at q1
        exact ⟨List.eq_nil_of_length_eq_zero q2, q1.2⟩
      · simp at q
    · subst e
      rcases e5.2 with ⟨q1, q2⟩ | ⟨g2, cap, cur, q, _⟩
      · simp at q1
      · simp only [Value.slice.injEq, Option.some.injEq] at q; rw [q.1]
    · rcases e5.2 with ⟨q1, q2⟩ | ⟨g2, cap, cur, q, q3, q4, _⟩
      · exact absurd (List.eq_nil_of_length_eq_zero q2) hne
      · simp only [Value.slice.injEq, Option.some.injEq, true_and] at q
        obtain ⟨rfl, rfl⟩ := q
        have hbl : blkOf (m g') = some g2 := by rw [e1]; rfl
        refine ⟨g2, 0, rfl, ⟨.inr q3, (h.hr.low g' _ g2 hg rfl hbl).2, fun g1 h1 hh1 hwr1 he => ?_⟩, fun i j v x hv hx => ?_⟩
        · simp only [updA, lk] at hh1
          by_cases e0 : g' = g1
          · subst e0
            rw [if_pos rfl] at hh1
            cases hh1; cases hwr1
          · rw [if_neg e0] at hh1
            exact e0 (h.hr.inj g' g1 _ h1 g2 hg hh1 rfl hwr1 hbl he)
        · have := e5.cells (g := g2) rfl (i * sz + j) x (flatten_get (fun v hv => (e4.row v hv).1) hv hx)
          rw [add_zero'] at this
          simpa using this
theorem SRel.named (h : SRel F S0 base W0 Z n s m ρ a w) {g et sz : Nat} {L : LE} {rows : List (List PD)} (hg : s.hp g = some (.own L et sz)) (hL : LE.rows ρ L = some rows) : SRel F S0 base W0 Z n (s.named g et sz) m (ρ ++ [.lst sz rows]) a w := by
  have hp := Pre.append ρ [.lst sz rows]
  refine ⟨h.tr.mono (Bm.le_refl _) hp, ?_, h.kn.mono hp, h.gm.mono hp, h.cm.mono hp, h.nb, by simp [St.named, h.nv], h.z, h.nb1⟩
  unfold St.named
  rw [hp_one]
  have hk := h.hr.hps g _ hg
  refine h.hr.upd (Bm.le_refl _) hp (Below.refl _ _) (blkOf (m g)) (fun b hb => ⟨g, _, hg, rfl, hb⟩) (fun _ _ _ => rfl) (fun g' => g' = g) (fun g' c' hc hne => ?_) (fun g' c' b hg' hc hwr hb => ?_) (fun g' g'' c c' b h1 h2 _ _ _ _ _ _ => by rw [h1, h2]) (fun hS hW g' c' hg' hc => ?_)
  · simp only [updA, lk] at hc
    rw [if_neg (Ne.symm hne)] at hc
    exact ⟨hc, fun hwr b hb he => hne (h.hr.inj g' g c' _ b hc hg hwr rfl hb he)⟩
  · subst hg'
    exact ⟨.inr hb, (h.hr.low g' _ b hg rfl hb).2⟩
  · subst hg'
    simp only [updA, lk, if_pos, Option.some.injEq] at hc
    subst hc
    obtain ⟨ad, n', c, rows', vals, e1, e2, rfl, e4, e5, e6⟩ := hk
    rw [hL] at e2
    cases e2
    exact ⟨ad, rows.length, c, rows, vals, e1, by simp [LE.rows, ← h.nv], rfl, e4.mono hS hW, e5, e6⟩
theorem SRel.cst {tp : List (Option C)} {l : List Ov} {d : Option Nat} {s' : St} (hs : s.cstd n d tp = .ok s') (hl : l.length = holes tp) (h : SRel F S0 base W0 Z n s m ρ a w) {w' : World} (hb : Below w.heap.size w w')
    {vs : List Value} (hv : At (ρ ++ ovs l) s.nv (ovs l) → evs m (ρ ++ ovs l) (tpCells s.nv tp) = some vs) : SRel F S0 base W0 Z n s' m (ρ ++ ovs l) (a.put d (.agg vs.toArray)) w' := by
  unfold St.cstd at hs
  obtain ⟨hd, h1, h2, h3, h4, h5, h6, h7⟩ := set_spec hs
  have hp := Pre.append ρ (ovs l)
  have hat : At (ρ ++ ovs l) s.nv (ovs l) := by rw [← h.nv]; exact at_end ρ _
  refine ⟨?_, ?_, ?_, ?_, ?_, ?_, ?_, h.z, by rw [h6]; exact h.nb1⟩
  · rw [h1]
    exact (h.tr.mono (Bm.le_refl _) hp).put hd fun _ => by simp [SV.ev, T1.ev, hv hat]
  · rw [show s'.hp = s.hp by unfold St.hp; rw [h2]]
    exact (h.hr.world hb).weak hp fun _ _ h => h
  · rw [h3]; exact h.kn.mono hp
  · rw [h4]; exact h.gm.mono hp
  · rw [h5]; exact h.cm.mono hp
  · rw [h6]; exact h.nb
  · rw [h7]; simp [h.nv, ovs, hl]
/-- At a loop's head. -/
theorem SRel.head (h : SRel F S0 base W0 Z n s m ρ a w) {l : LCtx} {args : List PC} {rens : List (Nat × RT)} {vs : List PD} (hs : simAll l s args rens = true) (hp : l.p0 ≤ ρ.length) (hv : pds ρ args = some vs)
    (hkn : KnOk l.T.kn (ρ.take l.p0)) (hgm : GmOk l.T.gm (ρ.take l.p0)) (hcm : CmOk F l.T.cm (ρ.take l.p0)) : SRel F S0 base W0 Z n l.T (renM m rens) (ρ.take l.p0 ++ vs) a w := by
  simp only [simAll, Bool.and_eq_true, List.all_eq_true, decide_eq_true_eq] at hs
  obtain ⟨⟨⟨⟨⟨⟨h1, h2⟩, h3⟩, h3'⟩, h4⟩, h5⟩, h6⟩ := hs
  have hh := headOk hp hv
  have hpre : Pre (ρ.take l.p0) (ρ.take l.p0 ++ vs) := Pre.append _ _
  have hsim : ∀ g c, l.T.hp g = some c → simH l.p0 args rens s.hp g c = true := fun g c hc => by
    unfold St.hp hpOf at hc
    cases hl : lk g l.T.hps with
    | none => rw [hl] at hc; cases hc
    | some x =>
      rw [hl] at hc
      simp only [Option.getD_some] at hc
      subst hc
      exact h2 _ (lk_mem hl)
  have hwr : ∀ g c, l.T.hp g = some c → c.wr = true → ∀ b, blkOf (renM m rens g) = some b → ∃ g' c', lk g rens = some (.to g') ∧ s.hp g' = some c' ∧ c'.wr = true ∧ blkOf (m g') = some b := fun g c hc hw b hb => by
    have := hsim g c hc
    unfold simH at this
    split at this
    · rename_i g' hg'
      split at this
      · rename_i h' hh'
        obtain ⟨e1, _⟩ := simHC_ok (w := w) (S := Stab S0 base s.hp m w) (base := base) (fun b h => h) hh this (g := g) (g' := g') (by simp [renM, hg']) (h.hr.hps g' _ hh')
        refine ⟨g', h', hg', hh', by rw [← e1]; exact hw, ?_⟩
        simpa [renM, hg'] using hb
      · cases this
    · rename_i hg'
      simp [renM, hg', blkOf] at hb
    · cases this
  have hS : ∀ b, Stab S0 base s.hp m w b → Stab S0 base l.T.hp (renM m rens) w b := fun b hb => ⟨hb.1, hb.2.1, fun g c hc hw he => by
    obtain ⟨g', c', _, q2, q3, q4⟩ := hwr g c hc hw b he
    exact hb.2.2 g' c' q2 q3 q4⟩
  have hle : ∀ b, Z = some b → renM m rens 0 = some b := fun b hb => by
    rw [renTo_ok h6]; exact h.z b hb
  refine ⟨⟨h.tr.size, h.tr.defs, fun t ht => ?_⟩, ⟨fun g c hc => ?_, fun g c b hc hw hb => ?_, fun g g' c c' b hc hc' hw hw' hb hb' => ?_, h.hr.bel, h.hr.le, h.hr.s0⟩, hkn.mono hpre, hgm.mono hpre, hcm.mono hpre, fun g hg => ?_, ?_, hle, ?_⟩
  · have ht' := ht
    unfold St.tm at ht'
    cases hl : lk t l.T.tms with
    | none => rw [hl] at ht'; exact absurd rfl ht'
    | some x =>
      have h7 := h1 _ (lk_mem hl)
      have hx : l.T.tm t = x := by unfold St.tm; rw [hl]; rfl
      rw [hx] at ht ⊢
      obtain ⟨q1, q2⟩ := simSV_ok (m := m) (rens := rens) hh h7 ht
      exact q2 (h.tr.tms t q1)
  · have := hsim g c hc
    unfold simH at this
    split at this
    · rename_i g' hg'
      split at this
      · rename_i h' hh'
        exact (simHC_ok hS hh this (g := g) (g' := g') (by simp [renM, hg']) (h.hr.hps g' _ hh')).2
      · cases this
    · rename_i hg'
      split at this
      · rename_i k et sz
        simp only [Bool.and_eq_true, decide_eq_true_eq] at this
        obtain ⟨v, q1, q2⟩ := hh.arg k _ this.1
        simp only [PC.pd, Option.some.injEq] at q2
        subst q2
        exact ⟨none, 0, 0, [], [], by simp [renM, hg'], by simp [LE.rows, q1], rfl, trivial, World.ownsRow_nil w base et sz, this.2⟩
      · cases this
    · cases this
  · obtain ⟨g', c', _, q2, q3, q4⟩ := hwr g c hc hw b hb
    exact h.hr.low g' c' b q2 q3 q4
  · obtain ⟨g1, c1, p1, p2, p3, p4⟩ := hwr g c hc hw b hb
    obtain ⟨g2, c2, q1, q2, q3, q4⟩ := hwr g' c' hc' hw' b hb'
    have := h.hr.inj g1 g2 c1 c2 b p2 q2 p3 q3 p4 q4
    subst this
    exact targets_inj h3 p1 q1
  · unfold renM
    cases hl : lk g rens with
    | none => rfl
    | some x => have := h4 _ (lk_mem hl); simp only at this; omega
  · rw [h5, List.length_append, List.length_take, pds_length hv, Nat.min_eq_left hp]
  · unfold renTo at h6
    split at h6
    · rename_i x hx
      have := h4 _ (lk_mem hx)
      simp only at this; omega
    · cases h6
def resM (tmps : Array Value) : ResultVar → Sem Value
  | .tmp t => pure (tmps.getD t undef)
  | .cell x t => do loadVar t (← asAddr (tmps.getD x undef))
theorem results_eq (fn : Func) (tmps : Array Value) : results fn tmps = (do
    let vs ← fn.results.mapM (resM tmps)
    pure (if h : vs.size = 1 then vs[0] else .tuple vs)) := rfl

theorem resAll_ok (hE : EnvOk P env) (h : SRel F S0 base W0 Z n s m ρ a w) : ∀ {rs : List ResultVar} {l : List T1}, resAll env s rs = some l →
    ∃ vs, T1.evs m ρ l = some vs ∧ (rs.mapM (resM a.tmps)).run P w = .ok vs w
  | [], l, hl => by simp only [resAll, Option.some.injEq] at hl; subst hl; exact ⟨[], rfl, by simp⟩
  | r :: rs, l, hl => by
    simp only [resAll, Option.bind_eq_some_iff, Option.some.injEq] at hl
    obtain ⟨x, hx, xs, hxs, rfl⟩ := hl
    obtain ⟨vs, h1, h2⟩ := resAll_ok hE h hxs
    cases r with
    | tmp t =>
      simp only [resOne] at hx
      split at hx
      · rename_i y hy
        cases hx
        have h3 := h.tr.tms t (by rw [hy]; simp)
        rw [hy] at h3
        have h4 : x.ev m ρ = some (a.tmps.getD t undef) := h3
        refine ⟨a.tmps.getD t undef :: vs, by simp [T1.evs, h4, h1], ?_⟩
        rw [List.mapM_cons]
        simp only [resM, Sem.run_bind, Sem.run_pure, Result.andThen_ok]
        rw [h2]
        simp
      · cases hx
    | cell q t =>
      have key : ∃ u, x.ev m ρ = some u ∧ (do pure (Next.value (← Instr.loadAt t (a.tmps.getD q undef))) : Sem Next).run P w = .ok (.value u) w := by
        simp only [resOne] at hx
        split at hx
        · rename_i g off d hx1 hd
          obtain ⟨b, hb, hct⟩ := pt_ev (opc_ok (opOk_tm h.tr rfl _) hx1)
          obtain ⟨hu, i, hi, hz, hs, hbs⟩ := hE.tys _ _ hd
          split at hx
          · rename_i cs ty hcs
            obtain ⟨b', us, hb', hvs, hw⟩ := h.hr.hps g _ hcs
            obtain rfl : b' = b := by rw [hb] at hb'; cases hb'; rfl
            have hlen := evs_length hvs
            have hct' : a.tmps.getD q undef = .pointer (some ⟨b', off, none⟩) := hct
            split at hx
            · rename_i hag
              split at hx
              · rename_i hle
                cases hx
                have hle' : off + i.size ≤ us.toArray.size := by simp; omega
                have h3 := run_load_agg (P := P) (t := t) hu hi hag hw hle'
                rw [hs] at h3
                refine ⟨_, by simp only [T1.ev, evs_take _ (evs_drop _ hvs), Option.map_some]; rfl, ?_⟩
                rw [hct', Sem.run_bind, h3]
                rfl
              · cases hx
            · rename_i hag
              split at hx
              · rename_i c hc
                cases hx
                obtain ⟨v, hv, hcv⟩ := evs_get hvs hc
                refine ⟨v, hcv, ?_⟩
                rw [hct', Sem.run_bind, run_load_one hu (by simpa using hag) hw (by simpa using hv)]
                rfl
              · cases hx
          · cases hx
        · cases hx
      obtain ⟨u, h4, hr'⟩ := key
      have h5 : (resM a.tmps (.cell q t)).run P w = .ok u w := by
        unfold resM
        cases hv : a.tmps.getD q undef with
        | pointer ad =>
          rw [hv] at hr'
          cases ad with
          | none => simp [Instr.loadAt, Instr.sureAddr, Sem.run_bind] at hr'
          | some ad =>
            simp only [Instr.loadAt, Instr.sureAddr, Sem.run_bind, Sem.run_pure, Result.andThen_ok] at hr'
            simp only [hv, asAddr, Sem.run_bind, Sem.run_pure, Result.andThen_ok]
            cases h6 : (loadVar t ad).run P w with
            | ok x w' => rw [h6] at hr'; simp at hr'; obtain ⟨rfl, rfl⟩ := hr'; rfl
            | halt x w' => rw [h6] at hr'; simp at hr'
        | _ => rw [hv] at hr'; simp [Instr.loadAt, Instr.sureAddr, Sem.run_bind] at hr'
      refine ⟨u :: vs, by simp [T1.evs, h4, h1], ?_⟩
      rw [List.mapM_cons, Sem.run_bind, h5]
      simp only [Result.andThen_ok, Sem.run_bind]
      rw [h2]
      simp
end
/-! ### 12. .. and that it is so -/
def flat : List LCtx → List Item
  | [] => []
  | l :: ctx => .inLoop l.c :: (l.k ++ flat ctx)
theorem exitTo_append (id : Nat) : ∀ (k x : List Item), exitTo id (k ++ x) = match exitTo id k with | some k' => some (k' ++ x) | none => exitTo id x
  | [], x => by simp [exitTo]
  | i :: k, x => by
    cases i <;> simp only [List.cons_append, exitTo] <;> first | exact exitTo_append id k x | (split <;> first | rfl | exact exitTo_append id k x)
section
variable {P : Program} {env : Env} {F : FnE} {n : Nat} {m : Bm} {ρ : List PD} {S0 : Nat → Prop} {base : Nat} {Z : Option Mb} {W0 w : World} {a : Act} {s : St}
def PreOk (F : FnE) : List LCtx → List PD → Prop
  | [], _ => True
  | l :: ctx, ρ => l.p0 ≤ ρ.length ∧ KnOk l.T.kn (ρ.take l.p0) ∧ GmOk l.T.gm (ρ.take l.p0) ∧ CmOk F l.T.cm (ρ.take l.p0) ∧ PreOk F ctx (ρ.take l.p0)
theorem PreOk.ext : ∀ {ctx : List LCtx} {ρ : List PD} (x : List PD), PreOk F ctx ρ → PreOk F ctx (ρ ++ x)
  | [], _, _, _ => trivial
  | l :: ctx, ρ, x, h => by
    obtain ⟨h1, h2⟩ := h
    have e : (ρ ++ x).take l.p0 = ρ.take l.p0 := List.take_append_of_le_length h1
    exact ⟨by simp; omega, by rw [e]; exact h2⟩
theorem PreOk.take {ctx : List LCtx} {ρ : List PD} {p : Nat} (h : PreOk F ctx (ρ.take p)) : PreOk F ctx ρ := by
  have := h.ext (ρ.drop p)
  rwa [List.take_append_drop] at this
theorem PreOk.tail {l : LCtx} {ctx : List LCtx} {ρ : List PD} (h : PreOk F (l :: ctx) ρ) : PreOk F ctx ρ := h.2.2.2.2.take
def Ends (P : Program) (fn : Func) (b : Frame) (cs : List Frame) (base : Nat) (W0 : World) (Φ : Value → World → Prop) (M : Machine) : Prop :=
  ∃ todo a w u, Steps P M (lone { b.at a todo with mode := .returning } cs w) ∧ a.defers = [] ∧ (results fn a.tmps).run P w = .ok u w ∧ Below base W0 w ∧ Φ u w
theorem Ends.of_steps {fn : Func} {b : Frame} {cs : List Frame} {Φ : Value → World → Prop} {M M' : Machine} (h : Steps P M M') (h' : Ends P fn b cs base W0 Φ M') : Ends P fn b cs base W0 Φ M := by
  obtain ⟨t, a, w, u, h1, h2⟩ := h'
  exact ⟨t, a, w, u, h.trans h1, h2⟩
/-- What is known at the end. -/
def FinOk (S0 : Nat → Prop) (base : Nat) (Z : Option Mb) (sh : Option Sh) (Φ : List PD → Prop) (Ψ : List C → Prop) (u : Value) (w : World) : Prop := match sh with
  | some sh => ∃ r, Φ r ∧ RepSh w (fun b => S0 b ∨ (base ≤ b ∧ b < w.heap.size)) sh r u
  | none => ∃ l m ρ vs, Ψ l ∧ (∀ b, Z = some b → m 0 = some b) ∧ evs m ρ l = some vs ∧ u = .agg vs.toArray
theorem argsOf_length {hp : HpF} : ∀ {ss : List S1} {ts : List T1} {l : List PC}, argsOf hp ss ts = .ok l → ss.length = ts.length
  | [], [], l, _ => rfl
  | s :: ss, t :: ts, l, h => by
    simp only [argsOf] at h
    split at h
    · split at h
      · split at h
        · rename_i l2 hl2; simp [argsOf_length hl2]
        · rename_i x hx; exact absurd h (fun h => hx _ h)
      · rename_i x hx; exact absurd h (fun h => hx _ h)
    · cases h
  | [], _ :: _, _, h => by simp [argsOf] at h
  | _ :: _, [], _, h => by simp [argsOf] at h
theorem fin_ok {cf : Cfg} {fn : Func} (hfn : fn.results.toList = cf.res) (hE : EnvOk P cf.env) (h : SRel F S0 base W0 Z cf.n s m ρ a w) {Φ : List PD → Prop} {Ψ : List C → Prop} :
    (∀ l, cf.fin s = .ok l → (∃ r, pds ρ l = some r ∧ Φ r) → ∃ u, (results fn a.tmps).run P w = .ok u w ∧ FinOk S0 base Z cf.sh Φ Ψ u w) ∧
    (∀ l, cf.fin s = .cs l → Ψ l → ∃ u, (results fn a.tmps).run P w = .ok u w ∧ FinOk S0 base Z cf.sh Φ Ψ u w) := by
  have hres : ∀ ts, resAll cf.env s cf.res = some ts → ∃ vs, T1.evs m ρ ts = some vs ∧ (results fn a.tmps).run P w = .ok (if h : vs.toArray.size = 1 then vs.toArray[0] else .tuple vs.toArray) w := fun ts hts => by
    obtain ⟨vs, h1, h2⟩ := resAll_ok hE h hts
    refine ⟨vs, h1, ?_⟩
    rw [results_eq, Sem.run_bind, mapM_toList (l := vs) _ _ w (by rw [hfn]; exact h2)]
    simp
  have hst : ∀ b, Stab S0 base s.hp m w b → S0 b ∨ (base ≤ b ∧ b < w.heap.size) := fun b hb => by
    rcases hb.1 with h1 | h1
    · exact .inl h1
    · exact .inr ⟨h1, hb.2.1⟩
  constructor
  · intro l hl ⟨r, hr, hΦ⟩
    unfold Cfg.fin at hl
    split at hl
    · rename_i ts hts
      obtain ⟨vs, h1, h2⟩ := hres ts hts
      split at hl
      · rename_i sh hsh
        split at hl
        · rename_i l' hl'
          cases hl
          unfold shPcs at hl'
          split at hl'
          · rename_i s1 t
            obtain ⟨ps, e1, e2⟩ := argsOf_ok h.hr.hps hl' h1
            rw [hr] at e1
            cases e1
            obtain ⟨p1, p2, v, us, rfl, rfl, e3, e4, e5⟩ := e2
            subst e4 e5
            refine ⟨v, by simpa using h2, ?_⟩
            rw [hsh]
            exact ⟨_, hΦ, by simp only [List.append_nil]; exact RepS1.mono hst (fun _ _ => rfl) e3⟩
          · rename_i l1 ts'
            split at hl'
            · cases hl'
            · rename_i hne
              obtain ⟨ps, e1, e2⟩ := argsOf_ok h.hr.hps hl' h1
              rw [hr] at e1
              cases e1
              have hlen : vs.length = ts.length := by
                have key : ∀ {ts : List T1} {vs : List Value}, T1.evs m ρ ts = some vs → vs.length = ts.length := by
                  intro ts
                  induction ts with
                  | nil => intro vs h; simp only [T1.evs, Option.some.injEq] at h; subst h; rfl
                  | cons t ts ih =>
                    intro vs h
                    simp only [T1.evs, Option.bind_eq_some_iff, Option.some.injEq] at h
                    obtain ⟨v, _, us, hus, rfl⟩ := h
                    simp [ih hus]
                exact key h1
              have hne' : ¬ vs.toArray.size = 1 := by simp; omega
              rw [dif_neg hne'] at h2
              refine ⟨_, h2, ?_⟩
              rw [hsh]
              exact ⟨_, hΦ, vs, rfl, e2.mono hst (fun _ _ => rfl)⟩
          · cases hl'
        · cases hl
        · cases hl
      · split at hl <;> cases hl
    · cases hl
  · intro l hl hΨ
    unfold Cfg.fin at hl
    split at hl
    · rename_i ts hts
      obtain ⟨vs, h1, h2⟩ := hres ts hts
      split at hl
      · split at hl <;> cases hl
      · rename_i hsh
        split at hl
        · rename_i l'
          cases hl
          simp only [T1.evs, T1.ev, Option.bind_eq_some_iff, Option.map_eq_some_iff, Option.some.injEq] at h1
          obtain ⟨v, ⟨us, hus, rfl⟩, vs', rfl, rfl⟩ := h1
          refine ⟨_, by simpa using h2, ?_⟩
          rw [hsh]
          exact ⟨l, m, ρ, us, hΨ, h.z, hus, rfl⟩
        · cases hl
    · cases hl
theorem relOf_ok {cf : Cfg} {op : Op} {tp : List (Option C)} (h : relOf cf s op = some tp) : ∃ g e args ats, op = .call { callee := .value (.func g), args := args, argTypes := ats } ∧ lk g cf.rel = some e ∧
    ((e.arg = false ∧ args = #[] ∧ tp = e.tp) ∨ (e.arg = true ∧ ∃ x q cs t, args = #[x] ∧ opc s.rd x = some (.pt q 0) ∧ s.hp q = some (.blk cs t) ∧ tp = e.tp.map (reGhost q))) := by
  cases op with
  | call c =>
    obtain ⟨callee, args, ats⟩ := c
    cases callee with
    | value x =>
      cases x with
      | func g =>
        simp only [relOf] at h
        split at h
        · rename_i e he
          split at h
          · rename_i ha hargs
            cases h
            exact ⟨g, e, args, ats, rfl, he, .inl ⟨ha, by apply Array.toList_inj.1; simpa using hargs, rfl⟩⟩
          · rename_i x ha hargs
            split at h
            · rename_i q hq
              split at h
              · rename_i cs t hb
                cases h
                exact ⟨g, e, args, ats, rfl, he, .inr ⟨ha, x, q, cs, t, by apply Array.toList_inj.1; simpa using hargs, hq, hb, rfl⟩⟩
              · cases h
            · cases h
          · cases h
        · cases h
      | _ => simp [relOf] at h
    | _ => simp [relOf] at h
  | _ => simp [relOf] at h
def OkJ (P : Program) (fn : Func) (b : Frame) (cs : List Frame) (F : FnE) (S0 : Nat → Prop) (base : Nat) (W0 : World) (Z : Option Mb) (n : Nat) (Φ : Value → World → Prop) (l : LCtx) (ctx : List LCtx) (J : List PD → Prop) : Prop := ∀ ρ m a w, J ρ → SRel F S0 base W0 Z n l.T m ρ a w → PreOk F (l :: ctx) ρ → Ends P fn b cs base W0 Φ (lone (b.at a (.inLoop l.c :: (l.k ++ flat ctx))) cs w)
def CtxJ (P : Program) (fn : Func) (b : Frame) (cs : List Frame) (F : FnE) (S0 : Nat → Prop) (base : Nat) (W0 : World) (Z : Option Mb) (n : Nat) (Φ : Value → World → Prop) (Js : List (List PD → Prop)) (lv : Nat) : List LCtx → Prop
  | [] => True
  | l :: ctx => (l.lv < lv ∧ ∃ J, Js[lv - 1 - l.lv]? = some J ∧ OkJ P fn b cs F S0 base W0 Z n Φ l ctx J) ∧ CtxJ P fn b cs F S0 base W0 Z n Φ Js lv ctx
theorem CtxJ.push {fn : Func} {b : Frame} {cs : List Frame} {Φ : Value → World → Prop} {Js : List (List PD → Prop)} {lv : Nat} {J : List PD → Prop} : ∀ {ctx : List LCtx}, CtxJ P fn b cs F S0 base W0 Z n Φ Js lv ctx → CtxJ P fn b cs F S0 base W0 Z n Φ (J :: Js) (lv + 1) ctx
  | [], _ => trivial
  | l :: ctx, h => by
    obtain ⟨⟨h1, J', h2, h3⟩, h4⟩ := h
    refine ⟨⟨by omega, J', ?_, h3⟩, h4.push⟩
    rw [show lv + 1 - 1 - l.lv = (lv - 1 - l.lv) + 1 by omega]
    simpa using h2
theorem exitCtx_ok {fn : Func} {b : Frame} {cs : List Frame} {Φ : Value → World → Prop} {Js : List (List PD → Prop)} {lv id : Nat} : ∀ {ctx ctx' : List LCtx} {k' : List Item}, exitCtx id ctx = some (ctx', k') →
    exitTo id (flat ctx) = some (k' ++ flat ctx') ∧ (CtxJ P fn b cs F S0 base W0 Z n Φ Js lv ctx → CtxJ P fn b cs F S0 base W0 Z n Φ Js lv ctx') ∧ (PreOk F ctx ρ → PreOk F ctx' ρ)
  | [], _, _, h => by simp [exitCtx] at h
  | l :: ctx, ctx', k', h => by
    simp only [exitCtx] at h
    split at h
    · rename_i k1 hk1
      cases h
      refine ⟨?_, fun h => h.2, fun h => h.tail⟩
      simp only [flat, exitTo]
      rw [exitTo_append, hk1]
    · rename_i hk1
      obtain ⟨h1, h2, h3⟩ := exitCtx_ok h
      refine ⟨?_, fun h => h2 h.2, fun h => h3 h.tail⟩
      simp only [flat, exitTo]
      rw [exitTo_append, hk1]
      exact h1
theorem buildT_eq (s : St) (sp : LSpec) (c : Code) (k : List Item) (lv : Nat) (key : Nat × Nat × Nat) : (buildT s sp c k lv key).c = c ∧ (buildT s sp c k lv key).k = k ∧ (buildT s sp c k lv key).p0 = s.nv ∧ (buildT s sp c k lv key).lv = lv ∧ (buildT s sp c k lv key).T.kn = s.kn ∧ (buildT s sp c k lv key).T.gm = s.gm ∧ (buildT s sp c k lv key).T.cm = s.cm :=
  ⟨rfl, rfl, rfl, rfl, rfl, rfl, rfl⟩
set_option maxHeartbeats 4000000 in
def ExtOk (P : Program) (F : FnE) (n : Nat) (ext : Ext) : Prop := ∀ (S0 : Nat → Prop) (base : Nat) (W0 : World) (Z : Option Mb) (s : St) (o : Oper) (f : Nat) (pcs : List PC) (ks : List K4) (s' : St), ext s o = some (.ask f pcs ks s') →
  ∀ (m : Bm) (ρ : List PD) (a : Act) (w : World) (ps r : List PD), SRel F S0 base W0 Z n s m ρ a w → pds ρ pcs = some ps → F f ps = some r → K4.oks ks r = true →
  ∀ (K : Act → World → Prop) (Q : Exit → Act → World → Prop), (∀ m' a' w', SRel F S0 base W0 Z n s' m' (ρ ++ r) a' w' → K a' w') → o.wp P a w K Q
theorem noExt_ok {F : FnE} {n : Nat} : ExtOk P F n noExt := fun _ _ _ _ s o f pcs ks s' h => by cases h
theorem run_sound {cf : Cfg} {fn : Func} (hX : ExtOk P F cf.n cf.exts) (hfn : fn.results.toList = cf.res) (hE : EnvOk P cf.env) (hF : Good P cf.env.fs F) (hR : GoodR P cf.rel) (hnp : ∀ f e, lk f cf.rel = some e → e.arg = false → noPt e.tp = true) (hmix : P.follows .mixedOrders = true) (b : Frame) (cs : List Frame) (Φ : List PD → Prop) (Ψ : List C → Prop) :
    ∀ (fuel : Nat), (∀ (lv : Nat) (ctx : List LCtx) (s : St) (todo : List Item) (Js : List (List PD → Prop)) (m : Bm) (ρ : List PD) (a : Act) (w : World), SRel F S0 base W0 Z cf.n s m ρ a w → CtxJ P fn b cs F S0 base W0 Z cf.n (FinOk S0 base Z cf.sh Φ Ψ) Js lv ctx → PreOk F ctx ρ → Js.length = lv →
        Den F Φ Ψ (run cf fuel lv ctx s todo) Js ρ → Ends P fn b cs base W0 (FinOk S0 base Z cf.sh Φ Ψ) (lone (b.at a (todo ++ flat ctx)) cs w)) ∧
      (∀ (lv : Nat) (ctx : List LCtx) (s : St) (ops : Array Oper) (is : List Nat) (k : List Item) (Js : List (List PD → Prop)) (m : Bm) (ρ : List PD) (a : Act) (w : World), SRel F S0 base W0 Z cf.n s m ρ a w → CtxJ P fn b cs F S0 base W0 Z cf.n (FinOk S0 base Z cf.sh Φ Ψ) Js lv ctx → PreOk F ctx ρ → Js.length = lv →
        Den F Φ Ψ (run cf fuel lv ctx s (.inRegion ops is :: k)) Js ρ →
        wpOps P ops (fun e a' w' => e = .normal ∧ Ends P fn b cs base W0 (FinOk S0 base Z cf.sh Φ Ψ) (lone (b.at a' (k ++ flat ctx)) cs w')) is a w) := by
  intro fuel
  induction fuel with
  | zero => exact ⟨fun lv ctx s todo Js m ρ a w _ _ _ _ hd => by simp [run, Den] at hd, fun lv ctx s ops is k Js m ρ a w _ _ _ _ hd => by simp [run, Den] at hd⟩
  | succ f ih' =>
    obtain ⟨ih, ihR⟩ := ih'
    have second : ∀ (lv : Nat) (ctx : List LCtx) (s : St) (ops : Array Oper) (is : List Nat) (k : List Item) (Js : List (List PD → Prop)) (m : Bm) (ρ : List PD) (a : Act) (w : World), SRel F S0 base W0 Z cf.n s m ρ a w → CtxJ P fn b cs F S0 base W0 Z cf.n (FinOk S0 base Z cf.sh Φ Ψ) Js lv ctx → PreOk F ctx ρ → Js.length = lv →
        Den F Φ Ψ (run cf (f + 1) lv ctx s (.inRegion ops is :: k)) Js ρ →
        wpOps P ops (fun e a' w' => e = .normal ∧ Ends P fn b cs base W0 (FinOk S0 base Z cf.sh Φ Ψ) (lone (b.at a' (k ++ flat ctx)) cs w')) is a w := by
      intro lv ctx s ops is k Js m ρ a w h hj hp hl hd
      cases is with
      | nil =>
        have hd' : Den F Φ Ψ (run cf f lv ctx s k) Js ρ := by
          cases ctx <;> exact hd
        exact ⟨rfl, ih lv ctx s k Js m ρ a w h hj hp hl hd'⟩
      | cons i is =>
        have hd' : Den F Φ Ψ (match ops[i]? with
            | none => .bad
            | some o => match wantT s.tm (knB s.kn) ops o with
              | .yes => match relOf cf s o.op with
                | some tp => match s.cstd cf.n o.dst tp with
                  | .ok s' => .cst (holes tp) (run cf f lv ctx s' (.inRegion ops is :: k))
                  | _ => .bad
                | none => match cf.exts s o with
                  | some (.ask g pcs ks s') => .ask g pcs ks (run cf f lv ctx s' (.inRegion ops is :: k))
                  | some (.fix g) => fixT s g fun s' => run cf f lv ctx s' (.inRegion ops (i :: is) :: k)
                  | some (.nm g) => nameT s g fun s' => run cf f lv ctx s' (.inRegion ops (i :: is) :: k)
                  | some (.fork c) => .ite c (run cf f lv ctx (s.assume c true) (.inRegion ops (i :: is) :: k)) (run cf f lv ctx (s.assume c false) (.inRegion ops (i :: is) :: k))
                  | none => match applyE s cf.n o.dst (step cf.env s.rd o.op) with
                    | .ok s' => run cf f lv ctx s' (.inRegion ops is :: k)
                    | .fork c => .ite c (run cf f lv ctx (s.assume c true) (.inRegion ops (i :: is) :: k)) (run cf f lv ctx (s.assume c false) (.inRegion ops (i :: is) :: k))
                    | .getr j x ks => .get j x ks (run cf f lv ctx (s.getd j x ks) (.inRegion ops (i :: is) :: k))
                    | .ask g pcs => askT cf s g pcs fun s' => run cf f lv ctx s' (.inRegion ops (i :: is) :: k)
                    | .fix g => fixT s g fun s' => run cf f lv ctx s' (.inRegion ops (i :: is) :: k)
                    | .bad => .bad
              | .no => match s.set cf.n o.dst (.tup []) with
                | .ok s' => run cf f lv ctx s' (.inRegion ops is :: k)
                | _ => .bad
              | .fork c => .ite c (run cf f lv ctx (s.assume c true) (.inRegion ops (i :: is) :: k)) (run cf f lv ctx (s.assume c false) (.inRegion ops (i :: is) :: k))
              | .bad => .bad) Js ρ := by
          cases ctx <;> exact hd
        clear hd
        split at hd'
        · exact hd'.elim
        · rename_i o ho
          have hw := wantT_ok (m := m) (a := a) (ops := ops) (o := o) (knB_ok h.kn) h.tr.tms
          split at hd'
          · rename_i hy
            rw [hy] at hw
            split at hd'
            · rename_i tp htp
              split at hd'
              · rename_i s' hs'
                rw [wpOps_cons]
                unfold wpOp
                simp only [ho]
                rw [if_pos hw]
                refine .inl ?_
                obtain ⟨dst, op, type, pos, after, guard⟩ := o
                obtain ⟨g, e, args, ats, rfl, h0, harg⟩ : ∃ g e args ats, op = .call { callee := .value (.func g), args := args, argTypes := ats } ∧ lk g cf.rel = some e ∧
                  ((e.arg = false ∧ args = #[] ∧ tp = e.tp) ∨ (e.arg = true ∧ ∃ x q cs t, args = #[x] ∧ opc s.rd x = some (.pt q 0) ∧ s.hp q = some (.blk cs t) ∧ tp = e.tp.map (reGhost q))) := relOf_ok htp
                obtain ⟨h1, h2⟩ := hR g e h0
                unfold Oper.wp
                have he : execOp a.eval { dst := dst, op := .call { callee := .value (.func g), args := args, argTypes := ats }, type := type, pos := pos, after := after, guard := guard } = callFunc g (args.map a.eval) := by
                  rw [execOp_call_go]; simp
                have key : ∃ bb, (e.arg = true → bb < w.heap.size) ∧ args.map a.eval = (if e.arg = true then #[.pointer (some ⟨bb, 0, none⟩)] else #[]) ∧ ∀ vs, tpMatch (oneM bb) e.tp vs → ∃ l : List Ov, l.length = holes tp ∧ ∀ (ρ : List PD) (k : Nat), At ρ k (ovs l) → evs m ρ (tpCells k tp) = some vs := by
                  rcases harg with ⟨q1, rfl, rfl⟩ | ⟨q1, x, q, qc, qt, rfl, hx, hqb, rfl⟩
                  · exact ⟨0, by simp [q1], by simp [q1], fun vs hv => tpMatch_ev (hnp g e h0 q1) hv⟩
                  · obtain ⟨bb, hbb, hxv⟩ := pt_ev (opc_ok (opOk_tm h.tr rfl x) hx)
                    refine ⟨bb, fun _ => ?_, by simp [q1, hxv], fun vs hv => tpMatch_arg hbb hv⟩
                    exact (h.hr.low q _ bb hqb rfl (by rw [hbb]; rfl)).2
                obtain ⟨bb, k1, k2, k3⟩ := key
                rw [he, h1 _ w, k2]
                refine Calls.mono (h2 bb w k1) fun e w' he => ?_
                cases e with
                | returned u =>
                  obtain ⟨⟨vs, h3, rfl⟩, hb⟩ := he
                  obtain ⟨l, h4, h5⟩ := k3 vs h3
                  exact ihR lv ctx s' ops is k Js m _ _ w' (h.cst hs' h4 hb (h5 _ _)) hj (hp.ext _) hl (hd' l h4)
                | panicked c => exact he.elim
                | outgrown => exact he.elim
              · exact hd'.elim
            · split at hd'
              · rename_i g pcs ks s' hx
                obtain ⟨ps, r, e1, e2, e3, hd'⟩ := hd'
                rw [wpOps_cons]
                unfold wpOp
                simp only [ho]
                rw [if_pos hw]
                exact .inl (hX S0 base W0 Z s o g pcs ks s' hx m ρ a w ps r h e1 e2 e3 _ _ fun m' a' w' h' => ihR lv ctx s' ops is k Js m' _ a' w' h' hj (hp.ext _) hl hd')
              · rename_i g hg
                unfold fixT at hd'
                split at hd'
                · rename_i L et sz hgo
                  obtain ⟨rows, e1, hd'⟩ := hd'
                  exact ihR lv ctx _ ops _ k Js m _ a w (h.fixd hgo e1) hj (hp.ext _) hl hd'
                · exact hd'.elim
              · rename_i g hg
                unfold nameT at hd'
                split at hd'
                · rename_i L et sz hgo
                  obtain ⟨rows, e1, hd'⟩ := hd'
                  exact ihR lv ctx _ ops _ k Js m _ a w (h.named hgo e1) hj (hp.ext _) hl hd'
                · exact hd'.elim
              · rename_i c hc
                obtain ⟨t, ht, hd'⟩ := hd'
                cases t with
                | true => exact ihR lv ctx _ ops _ k Js m ρ a w (h.assume ht) hj hp hl (by simpa using hd')
                | false => exact ihR lv ctx _ ops _ k Js m ρ a w (h.assume ht) hj hp hl (by simpa using hd')
              · split at hd'
                · rename_i s' hs'
                  rw [wpOps_cons]
                  unfold wpOp
                  simp only [ho]
                  rw [if_pos hw]
                  exact .inl (op_wp hE hF h hs' fun m' a' w' h' => ihR lv ctx s' ops is k Js m' ρ a' w' h' hj hp hl hd')
                · rename_i c hc
                  obtain ⟨t, ht, hd'⟩ := hd'
                  cases t with
                  | true => exact ihR lv ctx _ ops _ k Js m ρ a w (h.assume ht) hj hp hl (by simpa using hd')
                  | false => exact ihR lv ctx _ ops _ k Js m ρ a w (h.assume ht) hj hp hl (by simpa using hd')
                · rename_i j x ks hg
                  obtain ⟨sz, rows, iv, row, e1, e2, e3, e4, hd'⟩ := hd'
                  exact ihR lv ctx _ ops _ k Js m _ a w (h.getd e1 e2 e3 e4) hj (hp.ext _) hl hd'
                · rename_i g pcs hg
                  unfold askT at hd'
                  split at hd'
                  · rename_i sg sh hsh
                    obtain ⟨ps, r, e1, e2, e3, hd'⟩ := hd'
                    exact ihR lv ctx _ ops _ k Js m _ a w (h.askd e1 e2 e3) hj (hp.ext _) hl hd'
                  · exact hd'.elim
                · rename_i g hg
                  unfold fixT at hd'
                  split at hd'
                  · rename_i L et sz hgo
                    obtain ⟨rows, e1, hd'⟩ := hd'
                    exact ihR lv ctx _ ops _ k Js m _ a w (h.fixd hgo e1) hj (hp.ext _) hl hd'
                  · exact hd'.elim
                · exact hd'.elim
          · rename_i hy
            rw [hy] at hw
            split at hd'
            · rename_i s1 h1
              rw [wpOps_cons]
              unfold wpOp
              simp only [ho, hw, Bool.false_eq_true, if_false]
              obtain ⟨hdd, e1, e2, e3, e4, e5, e6, e7⟩ := set_spec h1
              refine ihR lv ctx s1 ops is k Js m ρ _ w ⟨?_, ?_, e3 ▸ h.kn, e4 ▸ h.gm, e5 ▸ h.cm, e6 ▸ h.nb, e7 ▸ h.nv, h.z, e6 ▸ h.nb1⟩ hj hp hl hd'
              · rw [e1]; exact h.tr.put hdd fun _ => rfl
              · rw [show s1.hp = s.hp by unfold St.hp; rw [e2]]; exact h.hr
            · exact hd'.elim
          · rename_i c hc
            obtain ⟨t, ht, hd'⟩ := hd'
            cases t with
            | true => exact ihR lv ctx _ ops _ k Js m ρ a w (h.assume ht) hj hp hl (by simpa using hd')
            | false => exact ihR lv ctx _ ops _ k Js m ρ a w (h.assume ht) hj hp hl (by simpa using hd')
          · exact hd'.elim
    refine ⟨?_, second⟩
    intro lv ctx s todo Js m ρ a w h hj hp hl hd
    have hend : ∀ {M : Machine} {td : List Item}, (∀ l, cf.fin s = .ok l → Den F Φ Ψ (.ret l) Js ρ → Go.step P M = .next (lone { b.at a td with mode := .returning } cs w) → Ends P fn b cs base W0 (FinOk S0 base Z cf.sh Φ Ψ) M) ∧
        (∀ l, cf.fin s = .cs l → Den F Φ Ψ (.retc l) Js ρ → Go.step P M = .next (lone { b.at a td with mode := .returning } cs w) → Ends P fn b cs base W0 (FinOk S0 base Z cf.sh Φ Ψ) M) := by
      intro M td
      obtain ⟨f1, f2⟩ := fin_ok (Φ := Φ) (Ψ := Ψ) hfn hE h
      exact ⟨fun l h1 h2 hs => by obtain ⟨u, h3, h4⟩ := f1 l h1 h2; exact ⟨_, a, w, u, .one hs, h.tr.defs, h3, h.hr.bel, h4⟩, fun l h1 h2 hs => by obtain ⟨u, h3, h4⟩ := f2 l h1 h2; exact ⟨_, a, w, u, .one hs, h.tr.defs, h3, h.hr.bel, h4⟩⟩
    have hfix : ∀ {g : Nat} {td : List Item}, Den F Φ Ψ (fixT s g fun s' => run cf f lv ctx s' td) Js ρ → Ends P fn b cs base W0 (FinOk S0 base Z cf.sh Φ Ψ) (lone (b.at a (td ++ flat ctx)) cs w) := by
      intro g td hd
      unfold fixT at hd
      split at hd
      · rename_i L et sz hgo
        obtain ⟨rows, e1, hd⟩ := hd
        exact ih lv ctx _ td Js m _ a w (h.fixd hgo e1) hj (hp.ext _) hl hd
      · exact hd.elim
    have hname : ∀ {g : Nat} {td : List Item}, Den F Φ Ψ (nameT s g fun s' => run cf f lv ctx s' td) Js ρ → Ends P fn b cs base W0 (FinOk S0 base Z cf.sh Φ Ψ) (lone (b.at a (td ++ flat ctx)) cs w) := by
      intro g td hd
      unfold nameT at hd
      split at hd
      · rename_i L et sz hgo
        obtain ⟨rows, e1, hd⟩ := hd
        exact ih lv ctx _ td Js m _ a w (h.named hgo e1) hj (hp.ext _) hl hd
      · exact hd.elim
    match todo with
    | [] =>
      cases ctx with
      | nil =>
        simp only [run] at hd
        split at hd
        · rename_i l hl'; exact hend.1 l hl' hd step_end
        · rename_i l hl'; exact hend.2 l hl' hd step_end
        · exact hfix hd
        · exact hd.elim
      | cons l ctx =>
        simp only [run] at hd
        split at hd
        · rename_i args rens hu
          split at hd
          · rename_i hs
            obtain ⟨vs, J, e1, e2, e3⟩ := hd
            obtain ⟨⟨h1, J', h2, h3⟩, h4⟩ := hj
            rw [h2] at e2
            cases e2
            obtain ⟨p1, p2, p3, p4, p5⟩ := hp
            have hh := h.head hs p1 e1 p2 p3 p4
            have hle : l.p0 ≤ (ρ.take l.p0).length := by rw [List.length_take]; omega
            have et : (ρ.take l.p0 ++ vs).take l.p0 = ρ.take l.p0 := by rw [List.take_append_of_le_length hle, List.take_take, Nat.min_self]
            exact h3 _ _ a w e3 hh ⟨by simp; omega, by rw [et]; exact ⟨p2, p3, p4, p5⟩⟩
          · exact hd.elim
        · exact hname hd
        · exact hd.elim
    | .code .skip :: k =>
      have hd : Den F Φ Ψ (run cf f lv ctx s k) Js ρ := by cases ctx <;> exact hd
      exact .of_steps (.one step_skip) (ih lv ctx s k Js m ρ a w h hj hp hl hd)
    | .code (.label l) :: k =>
      have hd : Den F Φ Ψ (run cf f lv ctx s k) Js ρ := by cases ctx <;> exact hd
      exact .of_steps (.one step_label) (ih lv ctx s k Js m ρ a w h hj hp hl hd)
    | .code .ret :: k =>
      have hd : Den F Φ Ψ (match cf.fin s with
        | .ok l => .ret l
        | .cs l => .retc l
        | .fix g => fixT s g fun s' => run cf f lv ctx s' (.code .ret :: k)
        | .bad => .bad) Js ρ := by cases ctx <;> exact hd
      split at hd
      · rename_i l hl'; exact hend.1 l hl' hd step_ret
      · rename_i l hl'; exact hend.2 l hl' hd step_ret
      · exact hfix hd
      · exact hd.elim
    | .code (.seq x y) :: k =>
      have hd : Den F Φ Ψ (run cf f lv ctx s (.code x :: .code y :: k)) Js ρ := by cases ctx <;> exact hd
      exact .of_steps (.one step_seq) (ih lv ctx s _ Js m ρ a w h hj hp hl hd)
    | .code (.block id c) :: k =>
      have hd : Den F Φ Ψ (run cf f lv ctx s (.code c :: .inBlock id :: k)) Js ρ := by cases ctx <;> exact hd
      exact .of_steps (.one step_block) (ih lv ctx s _ Js m ρ a w h hj hp hl hd)
    | .code (.loop c) :: k =>
      have hd : Den F Φ Ψ (match cf.cut c with
        | none => run cf f lv ctx s (.code c :: .inLoop c :: k)
        | some id => match buildT s (lkS (id, s.nb, s.nv) cf.specs) c k lv (id, s.nb, s.nv) with
          | l => match uT l s with
            | .ok args rens => if simAll l s args rens = true then .loop args l.ks (run cf f (lv + 1) (l :: ctx) l.T [.code c]) else .probe l.key l.T s
            | .name g => nameT s g fun s' => run cf f lv ctx s' (.code (.loop c) :: k)
            | .bad => .probe l.key l.T s) Js ρ := by cases ctx <;> exact hd
      split at hd
      · exact .of_steps (.one step_loop) (ih lv ctx s _ Js m ρ a w h hj hp hl hd)
      · rename_i id hid
        obtain ⟨t1, t2, t3, t4, t5, t6, t7⟩ := buildT_eq s (lkS (id, s.nb, s.nv) cf.specs) c k lv (id, s.nb, s.nv)
        revert hd t1 t2 t3 t4 t5 t6 t7
        generalize buildT s (lkS (id, s.nb, s.nv) cf.specs) c k lv (id, s.nb, s.nv) = l
        intro hd t1 t2 t3 t4 t5 t6 t7
        simp only at hd
        split at hd
        · rename_i args rens hu
          split at hd
          · rename_i hs
            obtain ⟨vs, e1, N, e2⟩ := hd
            have hpl : l.p0 = ρ.length := by rw [t3, h.nv]
            have htake : ρ.take l.p0 = ρ := by rw [hpl]; simp
            have hkn : KnOk l.T.kn (ρ.take l.p0) := by rw [t5, htake]; exact h.kn
            have hgm : GmOk l.T.gm (ρ.take l.p0) := by rw [t6, htake]; exact h.gm
            have hcm : CmOk F l.T.cm (ρ.take l.p0) := by rw [t7, htake]; exact h.cm
            have hh := h.head hs (by omega) e1 hkn hgm hcm
            rw [htake] at hh
            have claim : ∀ (N : Nat) (ρ' : List PD) (m : Bm) (a : Act) (w : World), iterP (fun J ρ' => Den F Φ Ψ (run cf f (lv + 1) (l :: ctx) l.T [.code c]) (J :: Js) ρ') N ρ' → SRel F S0 base W0 Z cf.n l.T m ρ' a w → PreOk F (l :: ctx) ρ' →
                Ends P fn b cs base W0 (FinOk S0 base Z cf.sh Φ Ψ) (lone (b.at a (.code c :: .inLoop l.c :: (l.k ++ flat ctx))) cs w) := by
              intro N
              induction N with
              | zero => intro ρ' m a w hN; exact hN.elim
              | succ N ihN =>
                intro ρ' m a w hN hSR hpre
                refine ih (lv + 1) (l :: ctx) l.T [.code c] _ m ρ' a w hSR ⟨⟨by omega, iterP (fun J ρ' => Den F Φ Ψ (run cf f (lv + 1) (l :: ctx) l.T [.code c]) (J :: Js) ρ') N, ?_, ?_⟩, hj.push⟩ hpre (by simp [hl]) hN
                · rw [t4, show lv + 1 - 1 - lv = 0 by omega]; rfl
                · intro ρ2 m2 a2 w2 hJ hS2 hP2
                  have := ihN ρ2 m2 a2 w2 hJ hS2 hP2
                  rw [t1] at this ⊢
                  exact .of_steps (.one step_inLoop) this
            have := claim N (ρ ++ vs) _ a w e2 hh ⟨by simp; omega, by
              have et : (ρ ++ vs).take l.p0 = ρ := by rw [hpl]; simp
              rw [et]
              rw [htake] at hkn hgm hcm
              exact ⟨hkn, hgm, hcm, hp⟩⟩
            rw [t1, t2] at this
            exact .of_steps (.one step_loop) this
          · exact hd.elim
        · exact hname hd
        · exact hd.elim
    | .inBlock id :: k =>
      have hd : Den F Φ Ψ (run cf f lv ctx s k) Js ρ := by cases ctx <;> exact hd
      exact .of_steps (.one step_inBlock) (ih lv ctx s k Js m ρ a w h hj hp hl hd)
    | .inLoop c :: k =>
      have hd : Den F Φ Ψ (run cf f lv ctx s (.code c :: .inLoop c :: k)) Js ρ := by cases ctx <;> exact hd
      exact .of_steps (.one step_inLoop) (ih lv ctx s _ Js m ρ a w h hj hp hl hd)
    | .code (.exit id) :: k =>
      have hd : Den F Φ Ψ (match exitTo id k with
        | some k' => run cf f lv ctx s k'
        | none => match exitCtx id ctx with
          | some (ctx', k') => run cf f lv ctx' s k'
          | none => .bad) Js ρ := by cases ctx <;> exact hd
      split at hd
      · rename_i k' hk
        refine .of_steps (.one (step_exit (k' := k' ++ flat ctx) ?_)) (ih lv ctx s k' Js m ρ a w h hj hp hl hd)
        show exitTo id (k ++ flat ctx) = _
        rw [exitTo_append, hk]
      · rename_i hk
        split at hd
        · rename_i ctx' k' hc
          obtain ⟨q1, q2, q3⟩ := exitCtx_ok (P := P) (fn := fn) (b := b) (cs := cs) (F := F) (S0 := S0) (base := base) (W0 := W0) (Z := Z) (n := cf.n) (Φ := FinOk S0 base Z cf.sh Φ Ψ) (Js := Js) (lv := lv) (ρ := ρ) hc
          refine .of_steps (.one (step_exit (k' := k' ++ flat ctx') ?_)) (ih lv ctx' s k' Js m ρ a w h (q2 hj) (q3 hp) hl hd)
          show exitTo id (k ++ flat ctx) = _
          rw [exitTo_append, hk]
          exact q1
        · exact hd.elim
    | .code (.cond c x y) :: k =>
      have hd : Den F Φ Ψ (match opc s.rd c with
        | some (.bo b) => match knB s.kn b with
          | some true => run cf f lv ctx s (.code x :: k)
          | some false => run cf f lv ctx s (.code y :: k)
          | none => .ite b (run cf f lv ctx (s.assume b true) (.code x :: k)) (run cf f lv ctx (s.assume b false) (.code y :: k))
        | _ => .bad) Js ρ := by cases ctx <;> exact hd
      split at hd
      · rename_i q hq
        have h1 := opc_ok (opOk_tm h.tr rfl c) hq
        simp only [C.ev, Option.map_eq_some_iff] at h1
        obtain ⟨t, ht, hct⟩ := h1
        split at hd
        · rename_i h2
          have h3 := knB_ok h.kn _ _ h2
          rw [ht] at h3; cases h3
          exact .of_steps (.one (step_cond hct.symm)) (ih lv ctx s (.code x :: k) Js m ρ a w h hj hp hl hd)
        · rename_i h2
          have h3 := knB_ok h.kn _ _ h2
          rw [ht] at h3; cases h3
          exact .of_steps (.one (step_cond hct.symm)) (ih lv ctx s (.code y :: k) Js m ρ a w h hj hp hl hd)
        · obtain ⟨t', ht', hd⟩ := hd
          rw [ht] at ht'
          cases ht'
          cases t with
          | true => exact .of_steps (.one (step_cond hct.symm)) (ih lv ctx _ (.code x :: k) Js m ρ a w (h.assume ht) hj hp hl (by simpa using hd))
          | false => exact .of_steps (.one (step_cond hct.symm)) (ih lv ctx _ (.code y :: k) Js m ρ a w (h.assume ht) hj hp hl (by simpa using hd))
      · exact hd.elim
    | .code (.region id ops false) :: k =>
      have hd : Den F Φ Ψ (run cf f lv ctx s (.inRegion ops (List.range ops.size) :: k)) Js ρ := by cases ctx <;> exact hd
      obtain ⟨e, a', w', ⟨rfl, h'⟩, harr⟩ := wp_region (id := id) (ihR lv ctx s ops _ k Js m ρ a w h hj hp hl hd) b (k ++ flat ctx) cs
      exact .of_steps harr h'
    | .inRegion ops is :: k =>
      obtain ⟨e, a', w', ⟨rfl, h'⟩, harr⟩ := wp_ops is a w (second lv ctx s ops is k Js m ρ a w h hj hp hl hd) b (k ++ flat ctx) cs
      exact .of_steps harr h'
    | .code (.region id ops true) :: k =>
      have hd : Den F Φ Ψ (match drawRun cf.env cf.n ops s with
        | .ok s' => run cf f lv ctx s' k
        | .fork c => .ite c (run cf f lv ctx (s.assume c true) (.code (.region id ops true) :: k)) (run cf f lv ctx (s.assume c false) (.code (.region id ops true) :: k))
        | .getr j i ks => .get j i ks (run cf f lv ctx (s.getd j i ks) (.code (.region id ops true) :: k))
        | .ask g pcs => askT cf s g pcs fun s' => run cf f lv ctx s' (.code (.region id ops true) :: k)
        | .fix g => fixT s g fun s' => run cf f lv ctx s' (.code (.region id ops true) :: k)
        | .bad => .bad) Js ρ := by cases ctx <;> exact hd
      split at hd
      · rename_i s' hr
        obtain ⟨ct, h1, rfl⟩ := drawRun_ok hr
        obtain ⟨e, a', w', ⟨rfl, m', h'⟩, harr⟩ := region_draw (Q := fun e a' w' => e = .normal ∧ ∃ m', SRel F S0 base W0 Z cf.n (ct.out s ops.size) m' ρ a' w') hE hF hmix h1 (id := id) h (fun m' a' w' h' => ⟨rfl, m', h'⟩) b (k ++ flat ctx) cs
        exact .of_steps harr (ih lv ctx _ k Js m' ρ a' w' h' hj hp hl hd)
      · rename_i c hc
        obtain ⟨t, ht, hd⟩ := hd
        cases t with
        | true => exact ih lv ctx _ (.code (.region id ops true) :: k) Js m ρ a w (h.assume ht) hj hp hl (by simpa using hd)
        | false => exact ih lv ctx _ (.code (.region id ops true) :: k) Js m ρ a w (h.assume ht) hj hp hl (by simpa using hd)
      · rename_i j x ks hg
        obtain ⟨sz, rows, iv, row, e1, e2, e3, e4, hd⟩ := hd
        exact ih lv ctx _ (.code (.region id ops true) :: k) Js m _ a w (h.getd e1 e2 e3 e4) hj (hp.ext _) hl hd
      · rename_i g pcs hg
        unfold askT at hd
        split at hd
        · rename_i sg sh hsh
          obtain ⟨ps, r, e1, e2, e3, hd⟩ := hd
          exact ih lv ctx _ (.code (.region id ops true) :: k) Js m _ a w (h.askd e1 e2 e3) hj (hp.ext _) hl hd
        · exact hd.elim
      · exact hfix (td := .code (.region id ops true) :: k) hd
      · exact hd.elim
    | .code (.rangeFunc ..) :: k => cases ctx <;> exact hd.elim
    | .code (.scope _) :: k => cases ctx <;> exact hd.elim
    | .code (.refuse _) :: k => cases ctx <;> exact hd.elim
    | .code (.goto _) :: k => cases ctx <;> exact hd.elim
    | .inScope _ :: k => cases ctx <;> exact hd.elim
    | .inRangeFunc _ :: k => cases ctx <;> exact hd.elim
    | .endRangeFunc _ :: k => cases ctx <;> exact hd.elim
    | .beginRound :: k => cases ctx <;> exact hd.elim
    | .call .. :: k => cases ctx <;> exact hd.elim
    | .extern .. :: k => cases ctx <;> exact hd.elim
end
/-! ### 13. '==' of two structs, of two arrays -/
def eqFs (rec : Nat → Option (List K2)) (env : List (Nat × TD)) : Nat → List Field → Option (List K2)
  | _, [] => some []
  | off, f :: fs => if f.name = "_" ∨ f.offset ≠ off then none else match rec f.type, env.lookup f.type with
    | some ks, some td => if td.sz = ks.length then (eqFs rec env (off + ks.length) fs).map (ks ++ ·) else none
    | _, _ => none
def eqKs (env : List (Nat × TD)) (flat : List Nat) : Nat → Nat → Option (List K2)
  | 0, _ => none
  | d + 1, t => match env.lookup t with
    | some td => match td.desc with
      | .int .i64 => some [.i]
      | .bool => some [.b]
      | .string => some [.s]
      | .array n e => match eqKs env flat d e, env.lookup e with
        | some ks, some te => if te.sz = ks.length then some (List.replicate n ks).flatten else none
        | _, _ => none
      | .struct fs => if flat.contains t = true then eqFs (eqKs env flat d) env 0 fs.toList else none
      | _ => none
    | none => none
def TysOk (P : Program) (tys : List (Nat × TD)) : Prop := ∀ t d, tys.lookup t = some d → P.underlying t = some d.desc ∧ ∃ i, P.info? t = some i ∧ i.zero = some d.zv ∧ i.size = d.sz ∧ i.bytes = d.bs
def FlatOk (P : Program) (flat : List Nat) : Prop := ∀ t, flat.contains t = true → P.stoodInHeld t = false ∧ P.eqGuardType P.depth t = false
theorem KsOf.split : ∀ {k1 k2 : List K2} {xs : List Value}, KsOf (k1 ++ k2) xs → KsOf k1 (xs.take k1.length) ∧ KsOf k2 (xs.drop k1.length) ∧ k1.length ≤ xs.length
  | [], k2, xs, h => ⟨by simp [KsOf], by simpa using h, by simp⟩
  | k :: k1, k2, [], h => by simp [KsOf] at h
  | k :: k1, k2, x :: xs, h => by
    simp only [List.cons_append, KsOf] at h
    obtain ⟨h1, h2, h3⟩ := KsOf.split h.2
    exact ⟨by simpa [KsOf] using ⟨h.1, h1⟩, by simpa using h2, by simpa using h3⟩
theorem KsOf.length : ∀ {ks : List K2} {xs : List Value}, KsOf ks xs → xs.length = ks.length
  | [], [], _ => rfl
  | _ :: _, _ :: _, h => by simp [KsOf.length h.2]
  | [], _ :: _, h => by simp [KsOf] at h
  | _ :: _, [], h => by simp [KsOf] at h
theorem allEq_append : ∀ {x1 y1 x2 y2 : List Value}, x1.length = y1.length → allEq (x1 ++ x2) (y1 ++ y2) = (allEq x1 y1 && allEq x2 y2)
  | [], [], _, _, _ => by simp [allEq]
  | x :: xs, y :: ys, x2, y2, h => by simp [allEq, allEq_append (x1 := xs) (y1 := ys) (by simpa using h), Bool.and_assoc]
  | [], _ :: _, _, _, h => by simp at h
  | _ :: _, [], _, _, h => by simp at h
def valAt (agg : Bool) (l : List Value) : Value := if agg = true then .agg l.toArray else l.headD undef
section
variable {P : Program} {tys : List (Nat × TD)} {flat : List Nat}
theorem eqFs_ok (hT : TysOk P tys) {D : Nat} {rec : Nat → Option (List K2)}
    (hrec : ∀ t ks td, rec t = some ks → tys.lookup t = some td → ∀ xs ys, KsOf ks xs → KsOf ks ys → ∀ w : World, (Op.equalIn D t (valAt (isAggD td.desc) xs) (valAt (isAggD td.desc) ys)).run P w = .ok (allEq xs ys) w)
    (hagg : ∀ t ks td, rec t = some ks → tys.lookup t = some td → isAggD td.desc = false → ks.length = 1) (xs ys : List Value) (w : World) :
    ∀ (fs : List Field) (off : Nat) (ks : List K2), eqFs rec tys off fs = some ks → KsOf ks (xs.drop off) → KsOf ks (ys.drop off) → (Op.eqFields D xs.toArray ys.toArray fs).run P w = .ok (allEq (xs.drop off) (ys.drop off)) w
  | [], off, ks, h, hx, hy => by
    simp only [eqFs, Option.some.injEq] at h
    subst h
    have h1 := KsOf.length hx
    have h2 := KsOf.length hy
    rw [List.length_eq_zero_iff.1 h1, List.length_eq_zero_iff.1 h2]
    simp [Op.eqFields, allEq]
  | f :: fs, off, ks, h, hx, hy => by
    simp only [eqFs] at h
    split at h
    · cases h
    · rename_i hno
      split at h
      · rename_i k1 td hk1 htd
        split at h
        · rename_i hsz
          simp only [Option.map_eq_some_iff] at h
          obtain ⟨k2, hk2, rfl⟩ := h
          obtain ⟨hx1, hx2, hx3⟩ := hx.split
          obtain ⟨hy1, hy2, hy3⟩ := hy.split
          rw [List.drop_drop] at hx2 hy2
          have ih := eqFs_ok hT hrec hagg xs ys w fs (off + k1.length) k2 hk2 hx2 hy2
          obtain ⟨hu, i, hi, _, his, _⟩ := hT _ _ htd
          have hoff : f.offset = off := by
            by_cases e : f.offset = off
            · exact e
            · exact absurd (Or.inr e) hno
          have hname : f.name ≠ "_" := fun e => hno (Or.inl e)
          have hpart : ∀ zs : List Value, KsOf k1 ((zs.drop off).take k1.length) → (part f.type zs.toArray f.offset).run P w = .ok (valAt (isAggD td.desc) ((zs.drop off).take k1.length)) w := by
            intro zs hz
            rw [run_part hu hi]
            cases hag : isAggD td.desc with
            | true =>
              rw [if_pos rfl]
              simp [valAt, hoff, his, hsz]
            | false =>
              have h1 := hagg _ _ _ hk1 htd hag
              rw [h1] at hz ⊢
              simp only [Bool.false_eq_true, if_false, valAt, hoff]
              have h2 := KsOf.length hz
              rw [h1] at h2
              cases hd : zs.drop off with
              | nil => rw [hd] at h2; simp at h2
              | cons z zs' =>
                have h3 : zs[off]? = some z := by
                  have : (zs.drop off)[0]? = some z := by rw [hd]; rfl
                  simpa using this
                simp [h3]
          have hval := hrec _ _ _ hk1 htd _ _ hx1 hy1 w
          have hsplit : ∀ zs : List Value, zs.drop off = (zs.drop off).take k1.length ++ zs.drop (off + k1.length) := fun zs => by
            rw [← List.drop_drop, List.take_append_drop]
          rw [hsplit xs, hsplit ys, allEq_append (by rw [KsOf.length hx1, KsOf.length hy1])]
          simp only [Op.eqFields, if_pos hname, Sem.run_bind, hpart xs hx1, hpart ys hy1, hval, Result.andThen_ok]
          cases hb : allEq ((xs.drop off).take k1.length) ((ys.drop off).take k1.length) with
          | false => simp
          | true => simpa using ih
        · cases h
      · cases h
theorem eqKs_one : ∀ {d t : Nat} {ks : List K2} {td : TD}, eqKs tys flat d t = some ks → tys.lookup t = some td → isAggD td.desc = false → ks.length = 1
  | 0, t, ks, td, h, ht, ha => by simp [eqKs] at h
  | d + 1, t, ks, td, h, ht, ha => by
    simp only [eqKs, ht] at h
    split at h
    · cases h; rfl
    · cases h; rfl
    · cases h; rfl
    · rename_i hd; rw [hd] at ha; simp [isAggD] at ha
    · rename_i hd; rw [hd] at ha; simp [isAggD] at ha
    · cases h
theorem one_int {xs : List Value} (h : KsOf [.i] xs) : ∃ n, xs = [.int .i64 n] := by
  match xs, h with
  | [.int .i64 n], _ => exact ⟨n, rfl⟩
theorem one_bool {xs : List Value} (h : KsOf [.b] xs) : ∃ n, xs = [.bool n] := by
  match xs, h with
  | [.bool n], _ => exact ⟨n, rfl⟩
theorem one_str {xs : List Value} (h : KsOf [.s] xs) : ∃ n, xs = [.string n] := by
  match xs, h with
  | [.string n], _ => exact ⟨n, rfl⟩
theorem eqItems_ok {D e : Nat} {ks : List K2} {td : TD} {i : TypeInfo} (hu : P.underlying e = some td.desc) (hi : P.info? e = some i) (hsz : i.size = ks.length) (hone : isAggD td.desc = false → ks.length = 1)
    (hrec : ∀ xs ys, KsOf ks xs → KsOf ks ys → ∀ w : World, (Op.equalIn D e (valAt (isAggD td.desc) xs) (valAt (isAggD td.desc) ys)).run P w = .ok (allEq xs ys) w) (xs ys : List Value) (w : World) :
    ∀ (m k : Nat), KsOf (List.replicate m ks).flatten (xs.drop (k * ks.length)) → KsOf (List.replicate m ks).flatten (ys.drop (k * ks.length)) →
      (Op.eqItems D e ks.length xs.toArray ys.toArray (List.range' k m)).run P w = .ok (allEq (xs.drop (k * ks.length)) (ys.drop (k * ks.length))) w
  | 0, k, hx, hy => by
    have h1 := KsOf.length hx
    have h2 := KsOf.length hy
    simp only [List.replicate_zero, List.flatten_nil, List.length_nil] at h1 h2
    rw [List.length_eq_zero_iff.1 h1, List.length_eq_zero_iff.1 h2]
    simp [Op.eqItems, allEq]
  | m + 1, k, hx, hy => by
    rw [List.replicate_succ, List.flatten_cons] at hx hy
    obtain ⟨hx1, hx2, hx3⟩ := hx.split
    obtain ⟨hy1, hy2, hy3⟩ := hy.split
    rw [List.drop_drop, show k * ks.length + ks.length = (k + 1) * ks.length by rw [Nat.add_mul]; omega] at hx2 hy2
    have ih := eqItems_ok hu hi hsz hone hrec xs ys w m (k + 1) hx2 hy2
    have hpart : ∀ zs : List Value, KsOf ks ((zs.drop (k * ks.length)).take ks.length) → (part e zs.toArray (k * ks.length)).run P w = .ok (valAt (isAggD td.desc) ((zs.drop (k * ks.length)).take ks.length)) w := by
      intro zs hz
      rw [run_part hu hi]
      cases hag : isAggD td.desc with
      | true =>
        rw [if_pos rfl]
        simp [valAt, hsz]
      | false =>
        have h1 := hone hag
        rw [h1] at hz ⊢
        simp only [Bool.false_eq_true, if_false, valAt]
        have h2 := KsOf.length hz
        rw [h1] at h2
        cases hd : zs.drop (k * 1) with
        | nil => rw [hd] at h2; simp at h2
        | cons z zs' =>
          have h3 : zs[k * 1]? = some z := by
            have : (zs.drop (k * 1))[0]? = some z := by rw [hd]; rfl
            simpa using this
          simp only [List.getElem?_toArray, h3]
          rfl
    have hval := hrec _ _ hx1 hy1 w
    have hsplit : ∀ zs : List Value, zs.drop (k * ks.length) = (zs.drop (k * ks.length)).take ks.length ++ zs.drop ((k + 1) * ks.length) := fun zs => by
      rw [show (k + 1) * ks.length = k * ks.length + ks.length by rw [Nat.add_mul]; omega, ← List.drop_drop, List.take_append_drop]
    rw [hsplit xs, hsplit ys, allEq_append (by rw [KsOf.length hx1, KsOf.length hy1])]
    rw [List.range'_succ]
    simp only [Op.eqItems, Sem.run_bind, hpart xs hx1, hpart ys hy1, hval, Result.andThen_ok]
    cases hb : allEq ((xs.drop (k * ks.length)).take ks.length) ((ys.drop (k * ks.length)).take ks.length) with
    | false => simp
    | true => simpa using ih
theorem eqKs_ok (hT : TysOk P tys) (hf : FlatOk P flat) : ∀ (d t : Nat) (ks : List K2) (td : TD), eqKs tys flat d t = some ks → tys.lookup t = some td → ∀ xs ys, KsOf ks xs → KsOf ks ys → ∀ (D : Nat), d ≤ D → ∀ w : World,
    (Op.equalIn D t (valAt (isAggD td.desc) xs) (valAt (isAggD td.desc) ys)).run P w = .ok (allEq xs ys) w
  | 0, t, ks, td, h, ht, xs, ys, hx, hy, D, hD, w => by simp [eqKs] at h
  | d + 1, t, ks, td, h, ht, xs, ys, hx, hy, 0, hD, w => by omega
  | d + 1, t, ks, td, h, ht, xs, ys, hx, hy, D + 1, hD, w => by
    obtain ⟨hu, _⟩ := hT _ _ ht
    simp only [eqKs, ht] at h
    split at h
    · rename_i hd
      cases h
      obtain ⟨n, rfl⟩ := one_int hx
      obtain ⟨k, rfl⟩ := one_int hy
      rw [hd] at hu ⊢
      simp [valAt, isAggD, run_equalIn_int w D t .i64 .i64 n k hu, allEq, valEq]
    · rename_i hd
      cases h
      obtain ⟨n, rfl⟩ := one_bool hx
      obtain ⟨k, rfl⟩ := one_bool hy
      rw [hd] at hu ⊢
      simp [valAt, isAggD, run_equalIn_bool w D t n k hu, allEq, valEq]
    · rename_i hd
      cases h
      obtain ⟨n, rfl⟩ := one_str hx
      obtain ⟨k, rfl⟩ := one_str hy
      rw [hd] at hu ⊢
      simp [valAt, isAggD, run_equalIn_string w D t n k hu, allEq, valEq]
    · rename_i n e hd
      split at h
      · rename_i ks' te hks hte
        split at h
        · rename_i hsz
          cases h
          rw [hd] at hu ⊢
          obtain ⟨hue, ie, hie, _, hse, _⟩ := hT _ _ hte
          have hcell : P.cellsOf e = ks'.length := by simp [Program.cellsOf, hie, hse, hsz]
          simp only [valAt, isAggD, if_pos]
          rw [run_equalIn_array (P := P) w D _ _ hu hie, hcell, List.range_eq_range']
          have := eqItems_ok (D := D) hue hie (by rw [hse, hsz]) (fun ha => eqKs_one hks hte ha) (fun xs ys hx hy w => eqKs_ok hT hf d e ks' te hks hte xs ys hx hy D (by omega) w) xs ys w n 0 (by simpa using hx) (by simpa using hy)
          simpa using this
        · cases h
      · cases h
    · rename_i fs hd
      split at h
      · rename_i hfl
        rw [hd] at hu ⊢
        have hff : P.fieldsOf t = fs := by simp [Program.fieldsOf, hu]
        simp only [valAt, isAggD, if_pos]
        rw [run_equalIn_struct (P := P) w D t _ _ (by rw [hff]; exact hu) (hf t hfl).1, hff]
        have := eqFs_ok hT (D := D) (rec := eqKs tys flat d) (fun t ks td h1 h2 xs ys hx hy w => eqKs_ok hT hf d t ks td h1 h2 xs ys hx hy D (by omega) w) (fun t ks td h1 h2 h3 => eqKs_one h1 h2 h3) xs ys w fs.toList 0 ks h (by simpa using hx) (by simpa using hy)
        simpa using this
      · cases h
    · cases h
def stD (tys : List (Nat × TD)) (t : Nat) : Bool := match tys.lookup t with
  | some td => isAggD td.desc
  | none => false
theorem stD_ok {t : Nat} (h : stD tys t = true) : ∃ td, tys.lookup t = some td ∧ isAggD td.desc = true := by
  unfold stD at h
  split at h
  · rename_i td htd; exact ⟨td, htd, h⟩
  · cases h
def eqsOf (tys : List (Nat × TD)) (flat : List Nat) : List Nat → List (Nat × List K2)
  | [] => []
  | t :: ts => match stD tys t, eqKs tys flat 10 t with
    | true, some ks => (t, ks) :: eqsOf tys flat ts
    | _, _ => eqsOf tys flat ts
theorem eqsOf_mem {t : Nat} {ks : List K2} : ∀ {ts : List Nat}, (eqsOf tys flat ts).lookup t = some ks → t ∈ ts ∧ eqKs tys flat 10 t = some ks ∧ stD tys t = true
  | [], h => by simp [eqsOf] at h
  | u :: ts, h => by
    simp only [eqsOf] at h
    split at h
    · rename_i k hfs hk
      simp only [List.lookup_cons] at h
      split at h
      · rename_i e
        have : t = u := by simpa using e
        cases h
        exact ⟨by simp [this], this ▸ hk, this ▸ hfs⟩
      · obtain ⟨h1, h2⟩ := eqsOf_mem h; exact ⟨List.mem_cons_of_mem _ h1, h2⟩
    · obtain ⟨h1, h2⟩ := eqsOf_mem h; exact ⟨List.mem_cons_of_mem _ h1, h2⟩
theorem env_ok (hT : TysOk P tys) (hf : FlatOk P flat) (kds : List (Nat × List K4)) (fs : List (Nat × List S1 × Sh)) : EnvOk P ⟨tys, eqsOf tys flat flat, kds, fs⟩ := by
  refine ⟨hT, fun t ks h xs ys hx hy o1 o2 w => ?_⟩
  obtain ⟨h1, h2, h3⟩ := eqsOf_mem h
  have hc : flat.contains t = true := by simpa using h1
  obtain ⟨td, htd, hd⟩ := stD_ok h3
  have heq := eqKs_ok hT hf 10 t ks td h2 htd xs ys hx hy Op.maxDepth (by decide) w
  rw [hd] at heq
  simp only [valAt, if_pos] at heq
  have hg := (hf t hc).2
  have hg1 : (eqGuard .eql t o1 o2 (.agg xs.toArray) (.agg ys.toArray)).run P w = .ok () w := by simp [eqGuard, Sem.run_bind, hg]
  have hg2 : (eqGuard .neq t o1 o2 (.agg xs.toArray) (.agg ys.toArray)).run P w = .ok () w := by simp [eqGuard, Sem.run_bind, hg]
  constructor
  · rw [Sem.run_bind, hg1]
    simp only [Result.andThen_ok, binOp, Op.equal, Sem.run_bind, heq, Sem.run_pure]
  · rw [Sem.run_bind, hg2]
    simp only [Result.andThen_ok, binOp, Op.equal, Sem.run_bind, heq, Sem.run_pure]
theorem tys_nil : TysOk P [] := fun t d h => by simp at h
theorem tys_cons {tys : List (Nat × TD)} (h : TysOk P tys) {t : Nat} {td : TD} (hu : P.underlying t = some td.desc) (hi : (P.info? t).map (fun i => (i.zero, i.size, i.bytes)) = some (some td.zv, td.sz, td.bs)) : TysOk P ((t, td) :: tys) := by
  intro k d hk
  simp only [List.lookup_cons] at hk
  split at hk
  · rename_i e
    have : k = t := by simpa using e
    cases hk
    subst this
    refine ⟨hu, ?_⟩
    simp only [Option.map_eq_some_iff] at hi
    obtain ⟨i, h1, h2⟩ := hi
    injection h2 with h3 h4
    injection h4 with h4 h5
    exact ⟨i, h1, h3, h4, h5⟩
  · exact h k d hk
theorem flat_nil : FlatOk P [] := fun t h => by simp at h
theorem flat_cons {l : List Nat} (h : FlatOk P l) {t : Nat} (h1 : P.stoodInHeld t = false) (h2 : P.eqGuardType P.depth t = false) : FlatOk P (t :: l) := by
  intro k hk
  simp only [List.contains_cons, Bool.or_eq_true, beq_iff_eq] at hk
  rcases hk with rfl | hk
  · exact ⟨h1, h2⟩
  · exact h k hk
end
/-! ### 14. From function to function -/
theorem Den_of_den {F : FnE} {K : Nat} {r : List PD} {Ψ : List C → Prop} : ∀ (t : Tree) (Js : List (List PD → Option (List PD))) (JPs : List (List PD → Prop)) (ρ : List PD), (∀ (d : Nat) j, Js[d]? = some j → ∃ J, JPs[d]? = some J ∧ ∀ ρ, j ρ = some r → J ρ) →
    den F K t Js ρ = some r → Den F (· = r) Ψ t JPs ρ
  | .ret l, Js, JPs, ρ, hJ, h => ⟨r, h, rfl⟩
  | .retc l, Js, JPs, ρ, hJ, h => by simp [den] at h
  | .ite c x y, Js, JPs, ρ, hJ, h => by
    simp only [den, Option.bind_eq_some_iff] at h
    obtain ⟨b, hb, h⟩ := h
    refine ⟨b, hb, ?_⟩
    cases b with
    | true => exact Den_of_den x Js JPs ρ hJ (by simpa using h)
    | false => exact Den_of_den y Js JPs ρ hJ (by simpa using h)
  | .ask f args ks k, Js, JPs, ρ, hJ, h => by
    simp only [den, Option.bind_eq_some_iff] at h
    obtain ⟨ps, h1, q, h2, h⟩ := h
    split at h
    · rename_i h3; exact ⟨ps, q, h1, h2, h3, Den_of_den k Js JPs _ hJ h⟩
    · cases h
  | .get l i ks k, Js, JPs, ρ, hJ, h => by
    simp only [den] at h
    split at h
    · rename_i sz rows hl
      simp only [Option.bind_eq_some_iff] at h
      obtain ⟨iv, h1, row, h2, h⟩ := h
      split at h
      · rename_i h3; exact ⟨sz, rows, iv, row, hl, h1, h2, h3, Den_of_den k Js JPs _ hJ h⟩
      · cases h
    · cases h
  | .fix L sz k, Js, JPs, ρ, hJ, h => by
    simp only [den, Option.bind_eq_some_iff] at h
    obtain ⟨rows, h1, h⟩ := h
    exact ⟨rows, h1, Den_of_den k Js JPs _ hJ h⟩
  | .cst _ _, _, _, _, _, h => by simp [den] at h
  | .loop args ks body, Js, JPs, ρ, hJ, h => by
    simp only [den, Option.bind_eq_some_iff] at h
    obtain ⟨vs, h1, h⟩ := h
    refine ⟨vs, h1, K, ?_⟩
    have key : ∀ (n : Nat) (ρ' : List PD), iterF (fun J ρ' => den F K body (J :: Js) ρ') n ρ' = some r → iterP (fun J ρ' => Den F (· = r) Ψ body (J :: JPs) ρ') n ρ' := by
      intro n
      induction n with
      | zero => intro ρ' h; cases h
      | succ n ih =>
        intro ρ' h
        refine Den_of_den body _ _ ρ' (fun d j hd => ?_) h
        cases d with
        | zero =>
          simp only [List.getElem?_cons_zero, Option.some.injEq] at hd
          subst hd
          exact ⟨_, rfl, ih⟩
        | succ d => simpa using hJ d j (by simpa using hd)
    exact key K _ h
  | .back d p0 args, Js, JPs, ρ, hJ, h => by
    simp only [den, Option.bind_eq_some_iff] at h
    obtain ⟨vs, h1, h⟩ := h
    split at h
    · rename_i j hj
      obtain ⟨J, h2, h3⟩ := hJ d j hj
      exact ⟨vs, J, h1, h2, h3 _ h⟩
    · cases h
  | .probe _ _ _, _, _, _, _, h => by simp [den] at h
  | .bad, _, _, _, _, h => by simp [den] at h
/-- A tree's answer, the world's values being given; no loops. -/
def denS (F : FnE) : Tree → List PD → List Ov → Option (List PD)
  | .ret l, ρ, _ => pds ρ l
  | .ite c x y, ρ, sup => (c.ev ρ).bind fun b => if b = true then denS F x ρ sup else denS F y ρ sup
  | .ask f args ks k, ρ, sup => (pds ρ args).bind fun ps => (F f ps).bind fun r => if K4.oks ks r = true then denS F k (ρ ++ r) sup else none
  | .get l i ks k, ρ, sup => match ρ[l]? with
    | some (.lst _ rows) => (i.ev ρ).bind fun iv => (rows[iv.toNat]?).bind fun row => if K4.oks ks row = true then denS F k (ρ ++ row) sup else none
    | _ => none
  | .fix L sz k, ρ, sup => (LE.rows ρ L).bind fun rows => denS F k (ρ ++ [.lst sz rows]) sup
  | .cst n k, ρ, sup => if n ≤ sup.length then denS F k (ρ ++ ovs (sup.take n)) (sup.drop n) else none
  | _, _, _ => none
theorem Den_of_denS {F : FnE} {r : List PD} {Ψ : List C → Prop} {JPs : List (List PD → Prop)} : ∀ (t : Tree) (n : Nat) (ρ : List PD), (∀ sup : List Ov, sup.length = n → denS F t ρ sup = some r) → Den F (· = r) Ψ t JPs ρ
  | .ret x, n, ρ, h => ⟨r, h (List.replicate n ⟨.bool true, rfl⟩) (by simp), rfl⟩
  | .ite c x y, n, ρ, h => by
    have h0 := h (List.replicate n ⟨.bool true, rfl⟩) (by simp)
    simp only [denS, Option.bind_eq_some_iff] at h0
    obtain ⟨b, hb, _⟩ := h0
    refine ⟨b, hb, ?_⟩
    cases b with
    | true => exact Den_of_denS x n ρ fun sup hs => by have := h sup hs; simpa [denS, hb] using this
    | false => exact Den_of_denS y n ρ fun sup hs => by have := h sup hs; simpa [denS, hb] using this
  | .ask f args ks k, n, ρ, h => by
    have h0 := h (List.replicate n ⟨.bool true, rfl⟩) (by simp)
    simp only [denS, Option.bind_eq_some_iff] at h0
    obtain ⟨ps, h1, q, h2, h3⟩ := h0
    split at h3
    · rename_i h4
      exact ⟨ps, q, h1, h2, h4, Den_of_denS k n _ fun sup hs => by have := h sup hs; simpa [denS, h1, h2, h4] using this⟩
    · cases h3
  | .get l i ks k, n, ρ, h => by
    have h0 := h (List.replicate n ⟨.bool true, rfl⟩) (by simp)
    simp only [denS] at h0
    split at h0
    · rename_i sz rows hl
      simp only [Option.bind_eq_some_iff] at h0
      obtain ⟨iv, h1, row, h2, h3⟩ := h0
      split at h3
      · rename_i h4
        exact ⟨sz, rows, iv, row, hl, h1, h2, h4, Den_of_denS k n _ fun sup hs => by have := h sup hs; simpa [denS, hl, h1, h2, h4] using this⟩
      · cases h3
    · cases h0
  | .fix L sz k, n, ρ, h => by
    have h0 := h (List.replicate n ⟨.bool true, rfl⟩) (by simp)
    simp only [denS, Option.bind_eq_some_iff] at h0
    obtain ⟨rows, h1, _⟩ := h0
    exact ⟨rows, h1, Den_of_denS k n _ fun sup hs => by have := h sup hs; simpa [denS, h1] using this⟩
  | .cst q k, n, ρ, h => by
    intro l hl
    have hn : q ≤ n := by
      have h0 := h (List.replicate n ⟨.bool true, rfl⟩) (by simp)
      simp only [denS, List.length_replicate] at h0
      split at h0
      · assumption
      · cases h0
    refine Den_of_denS k (n - q) _ fun sup hs => ?_
    have := h (l ++ sup) (by simp; omega)
    simp only [denS, List.length_append] at this
    rw [if_pos (by omega), ← hl, List.take_left, List.drop_left] at this
    exact this
  | .retc _, n, _, h => by have := h (List.replicate n ⟨.bool true, rfl⟩) (by simp); simp [denS] at this
  | .loop _ _ _, n, _, h => by have := h (List.replicate n ⟨.bool true, rfl⟩) (by simp); simp [denS] at this
  | .back _ _ _, n, _, h => by have := h (List.replicate n ⟨.bool true, rfl⟩) (by simp); simp [denS] at this
  | .probe _ _ _, n, _, h => by have := h (List.replicate n ⟨.bool true, rfl⟩) (by simp); simp [denS] at this
  | .bad, n, _, h => by have := h (List.replicate n ⟨.bool true, rfl⟩) (by simp); simp [denS] at this
/-! the beginning of a call -/
abbrev noM : Bm := fun _ => none
def argTms : Nat → Nat → Nat → List S1 → List (Nat × SV)
  | _, _, _, [] => []
  | t, k, g, s :: l => (t, .one (s.t1 k g)) :: argTms (t + 1) (k + s.ks.length) (g + s.ks.length) l
def St.init (l : List S1) : St := ⟨argTms 0 0 1 l, knews 0 1 (sks l), [], [], [], (sks l).length, 1 + (sks l).length⟩
def St.initP : St := ⟨[(0, .one (.ce (.pt 0 0)))], [], [], [], [], 0, 1⟩
section
variable {P : Program} {F : FnE} {ρ : List PD} {w : World} {S : Nat → Prop}
theorem argTms_ev : ∀ {ss : List S1} {ps : List PD} {vs : List Value} {t k0 g0 : Nat} {m' : Bm}, RepArgs w S ss ps vs → At ρ k0 ps → Bm.le (hdM noM g0 (sks ss) (flatV vs)) m' →
    ∀ (i : Nat) (v : SV), lk i (argTms t k0 g0 ss) = some v → t ≤ i ∧ ∃ u, vs[i - t]? = some u ∧ v.ev m' ρ = some u
  | [], ps, vs, t, k0, g0, m', h, hat, hle, i, v, hl => by simp [argTms, lk] at hl
  | s :: ss, ps, vs, t, k0, g0, m', h, hat, hle, i, v, hl => by
    obtain ⟨p1, p2, u, us, rfl, rfl, h3, h4⟩ := h
    have hlen : s.ks.length = u.cells.toList.length := by
      obtain ⟨e1, vs', e2, e3⟩ := h3.oks
      rw [e3, e2.length, K4.oks_length e1]
    have hp1 : p1.length = s.ks.length := K4.oks_length h3.oks.1
    simp only [sks, flatV] at hle
    have l1 : Bm.le (hdM noM g0 s.ks u.cells.toList) m' := fun g b hb => by
      refine hle g b ?_
      rcases Nat.lt_or_ge g g0 with c1 | c1
      · rw [hdM_lt c1] at hb; cases hb
      · rcases Nat.lt_or_ge g (g0 + s.ks.length) with c2 | c2
        · rw [hdM_append_left hlen c2 c1]; exact hb
        · rw [hdM_ge c2] at hb; cases hb
    have l2 : Bm.le (hdM noM (g0 + s.ks.length) (sks ss) (flatV us)) m' := fun g b hb => by
      refine hle g b ?_
      rcases Nat.lt_or_ge g (g0 + s.ks.length) with c2 | c2
      · rw [hdM_lt c2] at hb; cases hb
      · rw [hdM_append_right hlen c2]; exact hb
    simp only [argTms, lk] at hl
    split at hl
    · rename_i e
      subst e
      cases hl
      exact ⟨Nat.le_refl _, u, by simp, t1_ev (m := noM) h3 hat.left (fun _ _ _ => rfl) l1⟩
    · obtain ⟨h5, u', h6, h7⟩ := argTms_ev (t := t + 1) (k0 := k0 + s.ks.length) h4 (by have := hat.right; rwa [hp1] at this) l2 i v hl
      refine ⟨by omega, u', ?_, h7⟩
      rw [show i - t = (i - (t + 1)) + 1 by omega]
      simpa using h6
theorem RepArgs.length : ∀ {ss : List S1} {ps : List PD} {vs : List Value}, RepArgs w S ss ps vs → vs.length = ss.length
  | [], ps, vs, h => by obtain ⟨rfl, rfl⟩ := h; rfl
  | s :: ss, ps, vs, h => by
    obtain ⟨p1, p2, v, us, rfl, rfl, h3, h4⟩ := h
    simp [RepArgs.length h4]
/-- A function's contract. -/
theorem fn_good {f : FuncId} {fn : Func} {c : Code} {cf : Cfg} {l : List S1} {args : List Value} {fuel : Nat} (hf : P.funcs[f]? = some fn) (hb : fn.body = some c) (hn : fn.ntmps = cf.n)
    (hfn : fn.results.toList = cf.res) (hE : EnvOk P cf.env) (hF : Good P cf.env.fs F) (hR : GoodR P cf.rel) (hnp : ∀ f e, lk f cf.rel = some e → e.arg = false → noPt e.tp = true) (hmix : P.follows .mixedOrders = true) (hX : ExtOk P F cf.n cf.exts) (hlen : l.length ≤ cf.n)
    {Φ : List PD → Prop} {Ψ : List C → Prop} (hd : Den F Φ Ψ (run cf fuel 0 [] (.init l) [.code c]) [] ρ) (hS : ∀ b, S b → b < w.heap.size) (hargs : RepArgs w S l ρ args) :
    Calls P f args.toArray w fun
      | .returned u, w' => FinOk S w.heap.size none cf.sh Φ Ψ u w' ∧ Below w.heap.size w w'
      | _, _ => False := by
  intro cs
  let b : Frame := { (default : Frame) with fn := f, kind := .normal }
  have henter : Frame.enter P f args.toArray .normal = b.at { tmps := args.toArray ++ Array.replicate (fn.ntmps - args.toArray.size) undef, defers := [] } [.code c] := by
    simp [Frame.enter, Frame.at, hf, hb, b]
  have hat : At ρ 0 ρ := fun j s hj => by simpa using hj
  obtain ⟨hok, hrow⟩ := hargs.oks
  have hl := hargs.length
  have h0 : SRel F S w.heap.size w none cf.n (.init l) (hdM noM 1 (sks l) (flatV args)) ρ { tmps := args.toArray ++ Array.replicate (fn.ntmps - args.toArray.size) undef, defers := [] } w := by
    have hper : ∀ g h, (St.init l).hp g = some h → ∃ k et sz a n c rows, h = .per k et sz ∧ hdM noM 1 (sks l) (flatV args) g = some (.ow a n c) ∧ ρ[k]? = some (.lst sz rows) ∧ Rep w S (.lst sz rows) (.slice a n c) := fun g h hh => by
      unfold St.hp hpOf at hh
      cases hlk : lk g (St.init l).hps with
      | none => rw [hlk] at hh; cases hh
      | some x =>
        rw [hlk] at hh
        simp only [Option.getD_some] at hh
        subst hh
        obtain ⟨_, _, k, et, sz, a, n, c, rows, e1, e2, e3, e4⟩ := knews_ok (m := noM) hok hrow hat g _ hlk
        cases e1
        exact ⟨k, et, sz, a, n, c, rows, rfl, e2, e3, e4⟩
    have hst : ∀ b, S b → Stab S w.heap.size (St.init l).hp (hdM noM 1 (sks l) (flatV args)) w b := fun b hb => ⟨.inl hb, hS b hb, fun g h hh hw => by
      obtain ⟨k, et, sz, a, n, c, rows, rfl, _⟩ := hper g h hh
      cases hw⟩
    refine ⟨⟨by simp; omega, rfl, fun t ht => ?_⟩, ⟨fun g h hh => ?_, fun g h b hh hw => ?_, fun g g' h h' b hh hh' hw => ?_, Below.refl _ _, Nat.le_refl _, hS⟩, fun c x hm => (by simp [St.init] at hm), fun k i k0 ks hm => (by simp [St.init] at hm), fun f pcs k0 hm => (by simp [St.init] at hm), fun g hg => ?_, ?_, by simp, by simp [St.init]⟩
    · unfold St.tm at ht ⊢
      cases hk : lk t (St.init l).tms with
      | none => rw [hk] at ht; exact absurd rfl ht
      | some x =>
        obtain ⟨_, u, h1, h2⟩ := argTms_ev (m' := hdM noM 1 (sks l) (flatV args)) hargs hat (Bm.le_refl _) t x hk
        simp only [Option.getD_some, h2, Option.some.injEq]
        have h3 : args[t]? = some u := by simpa using h1
        have h4 : t < args.length := (List.getElem?_eq_some_iff.1 h3).1
        have h5 : args[t] = u := (List.getElem?_eq_some_iff.1 h3).2
        simp [Array.getD_eq_getD_getElem?, Array.getElem?_append, h4, h5]
    · obtain ⟨k, et, sz, a, n, c, rows, rfl, e2, e3, e4⟩ := hper g h hh
      exact ⟨a, n, c, rows, e2, e3, e4.mono hst (fun _ _ => rfl)⟩
    · obtain ⟨k, et, sz, a, n, c, rows, rfl, _⟩ := hper g h hh; cases hw
    · obtain ⟨k, et, sz, a, n, c, rows, rfl, _⟩ := hper g h hh; cases hw
    · exact hdM_ge hg
    · simp only [St.init]; exact K4.oks_length hok
  obtain ⟨td, a', w', u, h1, h2, h3, h4, h5⟩ := (run_sound hX hfn hE hF hR hnp hmix b cs Φ Ψ fuel).1 0 [] _ _ [] _ ρ _ w h0 trivial trivial rfl hd
  rw [henter]
  exact ⟨.returned u, w', _, ⟨h5, h4⟩, h1, rfl, rfl, h2, rfl, fn, hf, h3⟩
/-- .. of a function that is handed an address, or nothing. -/
theorem fn_goodP {f : FuncId} {fn : Func} {c : Code} {cf : Cfg} {fuel : Nat} (arg : Bool) (hf : P.funcs[f]? = some fn) (hb : fn.body = some c) (hn : fn.ntmps = cf.n)
    (hfn : fn.results.toList = cf.res) (hE : EnvOk P cf.env) (hF : Good P cf.env.fs F) (hR : GoodR P cf.rel) (hnp : ∀ f e, lk f cf.rel = some e → e.arg = false → noPt e.tp = true) (hmix : P.follows .mixedOrders = true) (hX : ExtOk P F cf.n cf.exts) (hlen : 1 ≤ cf.n)
    {Φ : List PD → Prop} {Ψ : List C → Prop} (bb : Nat) (hd : Den F Φ Ψ (run cf fuel 0 [] (if arg = true then .initP else .init []) [.code c]) [] []) :
    Calls P f (if arg = true then #[.pointer (some ⟨bb, 0, none⟩)] else #[]) w fun
      | .returned u, w' => FinOk (fun _ => False) w.heap.size (if arg = true then some (.bk bb) else none) cf.sh Φ Ψ u w' ∧ Below w.heap.size w w'
      | _, _ => False := by
  cases arg with
  | false =>
    have hd' : Den F Φ Ψ (run cf fuel 0 [] (.init []) [.code c]) [] [] := by simpa using hd
    have := fn_good (l := []) (args := []) (ρ := []) (w := w) (S := fun _ => False) hf hb hn hfn hE hF hR hnp hmix hX (Nat.zero_le _) hd' (fun _ h => h.elim) ⟨rfl, rfl⟩
    simpa using this
  | true =>
    simp only [if_true] at hd ⊢
    intro cs
    let b : Frame := { (default : Frame) with fn := f, kind := .normal }
    have henter : Frame.enter P f #[.pointer (some ⟨bb, 0, none⟩)] .normal = b.at { tmps := #[.pointer (some ⟨bb, 0, none⟩)] ++ Array.replicate (fn.ntmps - 1) undef, defers := [] } [.code c] := by
      simp [Frame.enter, Frame.at, hf, hb, b]
    have h0 : SRel F (fun _ => False) w.heap.size w (some (.bk bb)) cf.n .initP (oneM bb) [] { tmps := #[.pointer (some ⟨bb, 0, none⟩)] ++ Array.replicate (fn.ntmps - 1) undef, defers := [] } w := by
      refine ⟨⟨by simp; omega, rfl, fun t ht => ?_⟩, ⟨fun g h hh => ?_, fun g h b hh => ?_, fun g g' h h' b hh => ?_, Below.refl _ _, Nat.le_refl _, by simp⟩, fun c x hm => (by simp [St.initP] at hm), fun k i k0 ks hm => (by simp [St.initP] at hm), fun f pcs k0 hm => (by simp [St.initP] at hm), fun g hg => ?_, rfl, ?_, by simp [St.initP]⟩
      · simp only [St.tm, St.initP, lk] at ht ⊢
        by_cases e : 0 = t
        · subst e
          simp [SV.ev, T1.ev, C.ev, oneM, Array.getD_eq_getD_getElem?, Array.getElem?_append]
        · rw [if_neg e] at ht; exact absurd rfl ht
      · simp [St.hp, hpOf, St.initP, lk] at hh
      · simp [St.hp, hpOf, St.initP, lk] at hh
      · simp [St.hp, hpOf, St.initP, lk] at hh
      · simp only [St.initP] at hg
        simp only [oneM]
        rw [if_neg (by omega)]
      · intro q hq; cases hq; simp [oneM]
    obtain ⟨td, a', w', u, h1, h2, h3, h4, h5⟩ := (run_sound hX hfn hE hF hR hnp hmix b cs Φ Ψ fuel).1 0 [] _ _ [] _ [] _ w h0 trivial trivial rfl hd
    rw [henter]
    exact ⟨.returned u, w', _, ⟨h5, h4⟩, h1, rfl, rfl, h2, rfl, fn, hf, h3⟩
abbrev App := List PD → Option (List PD)
def mkF (l : List (Nat × App)) : FnE := fun f args => (lk f l).bind fun g => g args
theorem good_nil {fs : List (Nat × List S1 × Sh)} : Good P fs (mkF []) := ⟨fun et ps r h => by simp [mkF, lk] at h, fun f sg sh ps r _ _ h => by simp [mkF, lk] at h⟩
theorem subF_cons {l : List (Nat × App)} (hl : SubF (mkF l)) {f : Nat} (hf : f < 3000000) (g : App) : SubF (mkF ((f, g) :: l)) := fun et ps r h => by
  have he : f ≠ 3000000 + et := by omega
  exact hl et ps r (by simpa [mkF, lk, he] using h)
theorem callFunc_run {f : FuncId} {fn : Func} {c : Code} (hf : P.funcs[f]? = some fn) (hb : fn.body = some c) (hname : (fn.name == "runtime.NumGoroutine") = false) (args : Array Value) (w : World) :
    (callFunc f args).run P w = .ok (.enter f args) w := by
  have hname' : ¬ fn.name = "runtime.NumGoroutine" := by simpa using hname
  simp [callFunc, Sem.run_bind, hf, hname', hb]
/-- What a function of the program is, in the executor's words. -/
structure FnIs (P : Program) (f : FuncId) (st : St) (t : Tree) (cf : Cfg) : Prop where
  is : ∃ fn c fuel, P.funcs[f]? = some fn ∧ fn.body = some c ∧ fn.ntmps = cf.n ∧ fn.results.toList = cf.res ∧ (fn.name == "runtime.NumGoroutine") = false ∧ run cf fuel 0 [] st [.code c] = t
def RelNoPt (rel : List (Nat × RelE)) : Prop := ∀ f e, lk f rel = some e → e.arg = false → noPt e.tp = true
theorem fn_callsD {f : FuncId} {sg : List S1} {sh : Sh} {t : Tree} {cf : Cfg} (h : FnIs P f (.init sg) t cf) (hsh : cf.sh = some sh) (hlen : sg.length ≤ cf.n) (hE : EnvOk P cf.env) (hR : GoodR P cf.rel) (hnp : RelNoPt cf.rel) (hmix : P.follows .mixedOrders = true) (hX : ExtOk P F cf.n cf.exts) (hF : Good P cf.env.fs F)
    {ps r : List PD} (hd : Den F (· = r) (fun _ => False) t [] ps) {args : List Value} (hS : ∀ b, S b → b < w.heap.size) (hargs : RepArgs w S sg ps args) : Calls P f args.toArray w fun
      | .returned u, w' => RepSh w' (fun b => S b ∨ (w.heap.size ≤ b ∧ b < w'.heap.size)) sh r u ∧ Below w.heap.size w w'
      | _, _ => False := by
  obtain ⟨fn, c, fuel, hf, hb, hn, hr, _, rfl⟩ := h.is
  refine Calls.mono (fn_good (args := args) hf hb hn hr hE hF hR hnp hmix hX hlen hd hS hargs) fun e w' he => ?_
  cases e with
  | returned u =>
    obtain ⟨h1, h2⟩ := he
    rw [hsh] at h1
    obtain ⟨r', rfl, h3⟩ := h1
    exact ⟨h3, h2⟩
  | panicked c => exact he
  | outgrown => exact he
theorem good_consD {f : FuncId} {sg : List S1} {sh : Sh} {t : Tree} {cf : Cfg} (h : FnIs P f (.init sg) t cf) (hsh : cf.sh = some sh) (hlk : cf.env.fs.lookup f = some (sg, sh)) (hlen : sg.length ≤ cf.n) (hE : EnvOk P cf.env) (hR : GoodR P cf.rel) (hnp : RelNoPt cf.rel) (hmix : P.follows .mixedOrders = true)
    {l : List (Nat × App)} (hl : Good P cf.env.fs (mkF l)) {g : App} (hX : ExtOk P (mkF l) cf.n cf.exts) (hd : ∀ ps r, g ps = some r → Den (mkF l) (· = r) (fun _ => False) t [] ps) (hlt : f < 3000000 := by decide) : Good P cf.env.fs (mkF ((f, g) :: l)) := by
  refine ⟨subF_cons hl.1 hlt g, ?_⟩
  intro k sg' sh' ps r hlk' hk hF
  by_cases he : f = k
  · subst he
    rw [hlk] at hk
    cases hk
    simp only [mkF, lk, if_pos, Option.bind_some] at hF
    refine ⟨fun args w => ?_, fun args w S hS hargs => fn_callsD h hsh hlen hE hR hnp hmix hX hl (hd ps r hF) hS hargs⟩
    obtain ⟨fn, c, fuel, hf, hb, _, _, hname, _⟩ := h.is
    exact callFunc_run hf hb hname args w
  · refine hl.2 k sg' sh' ps r hlk' hk ?_
    simpa [mkF, lk, he] using hF
theorem good_cons {f : FuncId} {sg : List S1} {sh : Sh} {t : Tree} {cf : Cfg} (h : FnIs P f (.init sg) t cf) (hsh : cf.sh = some sh) (hlk : cf.env.fs.lookup f = some (sg, sh)) (hlen : sg.length ≤ cf.n) (hE : EnvOk P cf.env) (hR : GoodR P cf.rel) (hnp : RelNoPt cf.rel) (hmix : P.follows .mixedOrders = true)
    {l : List (Nat × App)} (hl : Good P cf.env.fs (mkF l)) {g : App} {K : Nat} (hX : ExtOk P (mkF l) cf.n cf.exts) (hd : ∀ ps r, g ps = some r → den (mkF l) K t [] ps = some r) (hlt : f < 3000000 := by decide) : Good P cf.env.fs (mkF ((f, g) :: l)) :=
  good_consD h hsh hlk hlen hE hR hnp hmix hl hX (fun ps r hg => Den_of_den t [] [] ps (fun d j hj => by simp at hj) (hd ps r hg)) hlt
/-- A function of the executor's own: not one of the program's. -/
theorem good_ps {fs : List (Nat × List S1 × Sh)} {f : Nat} {l : List (Nat × App)} (hn : fs.lookup f = none) (hl : Good P fs (mkF l)) (g : App) (hlt : f < 3000000 := by decide) : Good P fs (mkF ((f, g) :: l)) := by
  refine ⟨subF_cons hl.1 hlt g, ?_⟩
  intro k sg' sh' ps r hlk' hk hF
  have he : f ≠ k := fun e => by subst e; rw [hn] at hk; cases hk
  refine hl.2 k sg' sh' ps r hlk' hk ?_
  simpa [mkF, lk, he] using hF
/-- .. a slicing, or a building, where the order is drawn. -/
theorem good_dr {fs : List (Nat × List S1 × Sh)} {et : Nat} {g : App} {l : List (Nat × App)} (hg : drApp et = g) (hl : Good P fs (mkF l)) : Good P fs (mkF ((3000000 + et, g) :: l)) := by
  refine ⟨fun e ps r h => ?_, fun k sg' sh' ps r hlk' hk hF => ?_⟩
  · by_cases he : et = e
    · subst he; rw [hg]; simpa [mkF, lk] using h
    · have h3 : ¬ 3000000 + et = 3000000 + e := by omega
      exact hl.1 e ps r (by simpa [mkF, lk, h3, he] using h)
  · have h3 : ¬ 3000000 + et = k := by omega
    exact hl.2 k sg' sh' ps r hlk' hk (by simpa [mkF, lk, h3] using hF)
theorem good_sub {fs : List (Nat × List S1 × Sh)} {et : Nat} {l : List (Nat × App)} (hl : Good P fs (mkF l)) (hlt : et < 1000000 := by decide) : Good P fs (mkF ((3000000 + et, subApp) :: l)) := good_dr (by rw [drApp, if_pos hlt]) hl
theorem good_mk {fs : List (Nat × List S1 × Sh)} {et sz : Nat} {l : List (Nat × App)} (hl : Good P fs (mkF l)) (hlt : sz < 64 := by decide) : Good P fs (mkF ((3000000 + (1000000 + (64 * et + sz)), mkApp sz) :: l)) := good_dr (by rw [drApp, if_neg (mk_big _ _), mk_mod _ _ hlt]) hl
def tplC : C → Option C
  | .pt g off => if g = 0 then some (.pt 0 off) else none
  | .hd _ => none
  | .ep _ _ _ _ => none
  | .op _ => none
  | c => some c
theorem goodR_nil : GoodR P [] := fun f e h => by simp [lk] at h
def C.closed : C → Bool
  | .ex x => x.lt 0
  | .bo x => B.ltv 0 x
  | .so x => x.lt 0
  | _ => true
theorem tplC_match {m : Bm} {bb : Nat} (ρ : List PD) : ∀ {cs : List C} {vs : List Value}, (∀ off, C.pt 0 off ∈ cs → m 0 = some (.bk bb)) → cs.all C.closed = true → evs m ρ cs = some vs → tpMatch (oneM bb) (cs.map tplC) vs
  | [], vs, hm, hc, h => by simp only [evs, Option.some.injEq] at h; subst h; trivial
  | c :: cs, vs, hm, hc, h => by
    simp only [List.all_cons, Bool.and_eq_true] at hc
    simp only [evs, Option.bind_eq_some_iff, Option.some.injEq] at h
    obtain ⟨v, hv, us, hus, rfl⟩ := h
    have ih := tplC_match (bb := bb) ρ (fun off h => hm off (by simp [h])) hc.2 hus
    have hag : Agree 0 ρ ([] : List PD) := fun k hk => by omega
    cases c with
    | ex x => exact ⟨by simp only [C.ev, E.agree hag (show x.lt 0 = true from hc.1)]; exact hv, ih⟩
    | bo x => exact ⟨by simp only [C.ev, B.agree hag (show B.ltv 0 x = true from hc.1)]; exact hv, ih⟩
    | so x => exact ⟨by simp only [C.ev, SE.agree hag (show x.lt 0 = true from hc.1)]; exact hv, ih⟩
    | kv x => exact ⟨hv, ih⟩
    | op k => exact ⟨C.one hv, ih⟩
    | pt g o =>
      simp only [List.map_cons, tplC]
      by_cases e : g = 0
      · subst e
        rw [if_pos rfl]
        refine ⟨?_, ih⟩
        have h0 := hm o (by simp)
        simp only [C.ev, h0] at hv
        simpa [C.ev, oneM] using hv
      · rw [if_neg e]
        exact ⟨C.one hv, ih⟩
    | hd g => exact ⟨C.one hv, ih⟩
    | ep g i sz o => exact ⟨C.one hv, ih⟩
def hasPt0 : List C → Bool
  | [] => false
  | .pt 0 _ :: _ => true
  | _ :: l => hasPt0 l
theorem hasPt0_ok : ∀ {cs : List C}, hasPt0 cs = false → ∀ off, C.pt 0 off ∉ cs
  | [], _, off => by simp
  | c :: cs, h, off => by
    intro hm
    rcases List.mem_cons.1 hm with rfl | hm
    · simp [hasPt0] at h
    · refine hasPt0_ok (cs := cs) ?_ off hm
      cases c with
      | pt g o => cases g with
        | zero => simp [hasPt0] at h
        | succ g => simpa [hasPt0] using h
      | _ => simpa [hasPt0] using h
theorem tplC_noPt : ∀ {cs : List C}, hasPt0 cs = false → noPt (cs.map tplC) = true
  | [], _ => rfl
  | c :: cs, h => by
    cases c with
    | pt g o => cases g with
      | zero => simp [hasPt0] at h
      | succ g => simp only [List.map_cons, tplC]; exact tplC_noPt (cs := cs) (by simpa [hasPt0] using h)
    | _ => simp only [List.map_cons, tplC, noPt]; exact tplC_noPt (cs := cs) (by simpa [hasPt0] using h)
theorem goodR_cons {f : FuncId} {arg : Bool} {cs : List C} {cf : Cfg} (h : FnIs P f (if arg = true then .initP else .init []) (.retc cs) cf) (hsh : cf.sh = none) (hlen : 1 ≤ cf.n) (hcl : cs.all C.closed = true) (hpt : arg = false → hasPt0 cs = false) (hE : EnvOk P cf.env) (hR : GoodR P cf.rel) (hnp : RelNoPt cf.rel) (hmix : P.follows .mixedOrders = true)
    {rel : List (Nat × RelE)} (hl : GoodR P rel) (hX : cf.exts = noExt) : GoodR P ((f, ⟨arg, cs.map tplC⟩) :: rel) := by
  intro k e hk
  by_cases he : f = k
  · subst he
    simp only [lk, if_pos, Option.some.injEq] at hk
    subst hk
    obtain ⟨fn, c, fuel, hf, hb, hn, hr, hname, ht⟩ := h.is
    refine ⟨fun args w => callFunc_run hf hb hname args w, fun bb w _ => ?_⟩
    refine Calls.mono (fn_goodP (F := mkF []) arg hf hb hn hr hE good_nil hR hnp hmix (by rw [hX]; exact noExt_ok) hlen (Φ := fun _ => False) (Ψ := fun l => l = cs) bb (by rw [ht]; exact rfl)) fun e w' he => ?_
    cases e with
    | returned u =>
      obtain ⟨h1, h2⟩ := he
      rw [hsh] at h1
      obtain ⟨l, m, ρ, vs, rfl, h3, h4, rfl⟩ := h1
      refine ⟨⟨vs, tplC_match ρ (fun off ho => ?_) hcl h4, rfl⟩, h2⟩
      cases arg with
      | true => exact h3 _ rfl
      | false => exact absurd ho (hasPt0_ok (hpt rfl) off)
    | panicked c => exact he
    | outgrown => exact he
  · refine hl k e ?_
    simpa [lk, he] using hk
theorem relNoPt_nil : RelNoPt [] := fun f e h => by simp [lk] at h
theorem relNoPt_cons {f : Nat} {arg : Bool} {cs : List C} (hpt : arg = false → hasPt0 cs = false) {rel : List (Nat × RelE)} (h : RelNoPt rel) : RelNoPt ((f, ⟨arg, cs.map tplC⟩) :: rel) := fun k e hk ha => by
  by_cases he : f = k
  · subst he
    simp only [lk, if_pos, Option.some.injEq] at hk
    subst hk
    exact tplC_noPt (hpt ha)
  · exact h k e (by simpa [lk, he] using hk) ha
end
/-! ### 15. Plain data and Lean's own values -/
structure Rw (α : Type) where
  ks : List K4
  en : α → List PD
  de : List PD → Option α
  h1 : ∀ a, de (en a) = some a
  h2 : ∀ ps a, de ps = some a → ps = en a
  hok : ∀ a, K4.oks ks (en a) = true
def deI : List PD → Option Int
  | [.int a] => some a
  | _ => none
def deB : List PD → Option Bool
  | [.bool a] => some a
  | _ => none
def deS : List PD → Option ByteArray
  | [.str a] => some a
  | _ => none
def deO : List PD → Option Ov
  | [.oth v] => if h : v.oneCell' = true then some ⟨v, h⟩ else none
  | _ => none
def deU : List PD → Option Unit
  | [] => some ()
  | _ => none
def rwI : Rw Int := ⟨[.i], fun a => [.int a], deI, fun a => rfl, fun ps a h => by unfold deI at h; split at h <;> cases h; rfl, fun a => rfl⟩
def rwB : Rw Bool := ⟨[.b], fun a => [.bool a], deB, fun a => rfl, fun ps a h => by unfold deB at h; split at h <;> cases h; rfl, fun a => rfl⟩
def rwS : Rw ByteArray := ⟨[.s], fun a => [.str a], deS, fun a => rfl, fun ps a h => by unfold deS at h; split at h <;> cases h; rfl, fun a => rfl⟩
theorem deO_ok (ps : List PD) (a : Ov) (h : deO ps = some a) : ps = [.oth a.1] := by
  unfold deO at h
  split at h
  · split at h
    · cases h; rfl
    · cases h
  · cases h
def rwO : Rw Ov := ⟨[.o], fun a => [.oth a.1], deO, fun a => dif_pos a.2, deO_ok, fun a => by simp [K4.oks, K4.ok, a.2]⟩
def rwU : Rw Unit := ⟨[], fun _ => [], deU, fun _ => rfl, fun ps a h => by unfold deU at h; split at h <;> cases h; rfl, fun _ => rfl⟩
theorem Rw.len {α : Type} (r : Rw α) (a : α) : (r.en a).length = r.ks.length := K4.oks_length (r.hok a)
def rwP {α β : Type} (a : Rw α) (b : Rw β) : Rw (α × β) where
  ks := a.ks ++ b.ks
  en x := a.en x.1 ++ b.en x.2
  de ps := (a.de (ps.take a.ks.length)).bind fun x => (b.de (ps.drop a.ks.length)).bind fun y => some (x, y)
  h1 x := by rw [← a.len x.1, List.take_left, List.drop_left, a.h1, b.h1]; rfl
  h2 ps x h := by
    simp only [Option.bind_eq_some_iff, Option.some.injEq] at h
    obtain ⟨y, h1, z, h2, rfl⟩ := h
    have := a.h2 _ _ h1
    have := b.h2 _ _ h2
    rw [← List.take_append_drop a.ks.length ps]
    simp [*]
  hok x := K4.oks_append (a.hok x.1) (b.hok x.2)
def mapO {α : Type} (f : List PD → Option α) : List (List PD) → Option (List α)
  | [] => some []
  | x :: xs => (f x).bind fun y => (mapO f xs).bind fun ys => some (y :: ys)
theorem mapO_en {α : Type} (r : Rw α) : ∀ (l : List α), mapO r.de (l.map r.en) = some l
  | [] => rfl
  | x :: l => by simp [mapO, r.h1, mapO_en r l]
theorem mapO_de {α : Type} (r : Rw α) : ∀ (rows : List (List PD)) (l : List α), mapO r.de rows = some l → rows = l.map r.en
  | [], l, h => by simp only [mapO, Option.some.injEq] at h; subst h; rfl
  | x :: rows, l, h => by
    simp only [mapO, Option.bind_eq_some_iff, Option.some.injEq] at h
    obtain ⟨y, h1, ys, h2, rfl⟩ := h
    rw [r.h2 _ _ h1, mapO_de r rows ys h2]; rfl
def deL {α : Type} (r : Rw α) : List PD → Option (List α)
  | [.lst sz rows] => if sz = r.ks.length then mapO r.de rows else none
  | _ => none
def rwL {α : Type} (et sz : Nat) (r : Rw α) (h : r.ks.length = sz) : Rw (List α) where
  ks := [.l et sz]
  en l := [.lst sz (l.map r.en)]
  de := deL r
  h1 l := by simp [deL, h, mapO_en]
  h2 ps l hd := by
    unfold deL at hd
    split at hd
    · split at hd
      · rename_i e; rw [mapO_de r _ _ hd, e, h]
      · cases hd
    · cases hd
  hok l := by simp [K4.oks, K4.ok]
theorem bmap {α β γ : Type} (o : Option α) (f : α → Option β) (g : β → γ) : (o.bind f).map g = o.bind fun x => (f x).map g := by cases o <;> rfl
theorem mapb {α β γ : Type} (o : Option α) (f : α → β) (g : β → Option γ) : (o.map f).bind g = o.bind fun x => g (f x) := by cases o <;> rfl
theorem ite_map {α β : Type} {p : Prop} [Decidable p] (x y : Option α) (g : α → β) : (if p then x else y).map g = if p then x.map g else y.map g := by split <;> rfl
theorem oc_str (b : ByteArray) : (Value.string b).oneCell' = true := rfl
theorem oc_sl (a : Option Addr) (n c : Nat) : (Value.slice a n c).oneCell' = true := rfl
theorem oc_pt (a : Option Addr) : (Value.pointer a).oneCell' = true := rfl
theorem ov_prop (v : Ov) : v.1.oneCell' = true := v.2
def mxi (x y : Int) : Int := if x < y then y else x
def mni (x y : Int) : Int := if y < x then y else x
/-- An answer that is one bool. -/
theorem bool_ans {w : World} {S : Nat → Prop} {r : Bool} {u : Value} (h : RepSh w S (.one (.one .b)) [.bool r] u) : u = .bool r := by
  obtain ⟨p, h1, _, h3⟩ := h
  cases h1
  cases h3
  rfl
theorem app_ap {α β : Type} (ra : Rw α) (rr : Rw β) (f : α → Option β) (a : α) : ((ra.de (ra.en a)).bind fun x => (f x).map rr.en) = (f a).map rr.en := by rw [ra.h1]; rfl
theorem app_ok {α β : Type} {ra : Rw α} {rr : Rw β} {f : α → Option β} {ps r : List PD} (h : ((ra.de ps).bind fun x => (f x).map rr.en) = some r) : ∃ a, ps = ra.en a ∧ (f a).map rr.en = some r := by
  simp only [Option.bind_eq_some_iff] at h
  obtain ⟨a, h1, h2⟩ := h
  exact ⟨a, ra.h2 _ _ h1, h2⟩
theorem RepArgs.cons {w : World} {S : Nat → Prop} {s : S1} {ss : List S1} {p1 p2 : List PD} {v : Value} {us : List Value} (h : RepS1 w S s p1 v) (h' : RepArgs w S ss p2 us) : RepArgs w S (s :: ss) (p1 ++ p2) (v :: us) := ⟨p1, p2, v, us, rfl, rfl, h, h'⟩
theorem RepArgs.nil' {w : World} {S : Nat → Prop} : RepArgs w S [] [] [] := ⟨rfl, rfl⟩
theorem RepS1.one' {w : World} {S : Nat → Prop} {k : K4} {p : PD} {v : Value} (h : RepRow w S [p] [v]) (ho : k.ok p = true) : RepS1 w S (.one k) [p] v := ⟨p, rfl, ho, h.1⟩
/-! ### 16. Arguments, opened: out of a value's reading, the data that it is -/
section
variable {H : Type} {enc : TypeId × Value → H} {P : Program} {w : World} {base : Nat} {sp : Nat → Bool} {held : Bool}
def Opn {α : Type} (enc : TypeId × Value → H) (P : Program) (w : World) (base : Nat) (sp : Nat → Bool) (held : Bool) (T : TypeId) (d : Rw α) (ok : α → Prop) : Prop :=
  ∀ (n : Nat) (cs : List Value) (x : DataW H × List MemPlace), DataW.trod enc P w base sp held n T cs = some x → ∃ v, RepRow w (fun b => b < w.heap.size) (d.en v) cs ∧ ok v
theorem Opn.int {T : TypeId} (hu : P.underlying T = some (.int .i64)) : Opn enc P w base sp held T rwI (fun a => (Lit.int .i64 a).wf = true) := by
  intro n cs x h
  obtain ⟨a, rfl, _, hw⟩ := DataW.trod_int hu h
  exact ⟨a, ⟨.int a, trivial⟩, hw⟩
theorem Opn.bool {T : TypeId} (hu : P.underlying T = some .bool) : Opn enc P w base sp held T rwB (fun _ => True) := by
  intro n cs x h
  obtain ⟨a, rfl, _⟩ := DataW.trod_bool hu h
  exact ⟨a, ⟨.bool a, trivial⟩, trivial⟩
theorem Opn.string {T : TypeId} (hu : P.underlying T = some .string) : Opn enc P w base sp held T rwS (fun a => a.size ≤ maxLen) := by
  intro n cs x h
  obtain ⟨a, rfl, _, hw⟩ := DataW.trod_string hu h
  exact ⟨a, ⟨.str a, trivial⟩, hw⟩
theorem Opn.opaque {T e : TypeId} (hu : P.underlying T = some (.slice e)) : Opn enc P w base sp held T rwO (fun _ => True) := by
  intro n cs x h
  rcases DataW.trod_slice hu h with ⟨rfl, _⟩ | ⟨a, len, cap, elems, rest, m, _, rfl, _⟩
  · exact ⟨⟨.slice none 0 0, rfl⟩, ⟨.oth _ rfl, trivial⟩, trivial⟩
  · exact ⟨⟨.slice (some a) len cap, rfl⟩, ⟨.oth _ rfl, trivial⟩, trivial⟩
theorem addr_add_add (a : Addr) (m n : Nat) : (a.add m).add n = a.add (m + n) := by
  unfold Addr.add
  by_cases h : m = 0
  · subst h; simp
  · by_cases h' : n = 0
    · subst h'; simp [h]
    · have : ¬ (m + n = 0) := by omega
      simp [h, h', Nat.add_assoc]
theorem list_of_ex {α : Type} (p : Nat → α → Prop) : ∀ (n : Nat), (∀ i, i < n → ∃ v, p i v) → ∃ l : List α, l.length = n ∧ ∀ i v, l[i]? = some v → p i v
  | 0, _ => ⟨[], rfl, fun i v h => by simp at h⟩
  | n + 1, h => by
    obtain ⟨l, hl, hp⟩ := list_of_ex p n (fun i hi => h i (by omega))
    obtain ⟨v, hv⟩ := h n (by omega)
    refine ⟨l ++ [v], by simp [hl], fun i u hu => ?_⟩
    by_cases hi : i < n
    · rw [List.getElem?_append_left (by omega)] at hu; exact hp i u hu
    · have : i = n := by have := (List.getElem?_eq_some_iff.1 hu).1; simp [hl] at this; omega
      subst this
      rw [List.getElem?_append_right (by omega), hl] at hu
      simp at hu
      subst hu
      exact hv
theorem Opn.slice {α : Type} {T e sz : Nat} {d : Rw α} {ok : α → Prop} (hu : P.underlying T = some (.slice e)) (hd : d.ks.length = sz) (hz : sz ≠ 0) (hc : P.cellsOf e = sz) (he : Opn enc P w base sp held e d ok) :
    Opn enc P w base sp held T (rwL e sz d hd) (fun xs => xs.length ≤ maxLen ∧ ∀ x ∈ xs, ok x) := by
  intro n cs x h
  rcases DataW.trod_slice hu h with ⟨rfl, _⟩ | ⟨a, len, cap, elems, rest, m, _, rfl, _, hb, hl, hm, hlen, hel, _, _⟩
  · refine ⟨[], ⟨?_, trivial⟩, by simp, by simp⟩
    exact .lst sz [] none 0 (fun _ _ => undef) (by simp) (by simp) (by simp) (by simp) (by simp) (by simp) (by simp)
  · have each : ∀ i, i < len → ∃ vc : α × List Value, ok vc.1 ∧ RepRow w (fun b => b < w.heap.size) (d.en vc.1) vc.2 ∧ ∀ j u, vc.2[j]? = some u → w.cell? (a.add (i * sz + j)) = some u := by
      intro i hi
      have h1 := hel i hi
      obtain ⟨y, hy⟩ : ∃ y, elems[i]? = some y := ⟨_, List.getElem?_eq_getElem (by omega)⟩
      rw [hy, Option.bind_eq_some_iff] at h1
      obtain ⟨c, hcs, ht⟩ := h1
      obtain ⟨v, hK, hok⟩ := he m c y ht
      refine ⟨(v, c), hok, hK, fun j u hj => ?_⟩
      obtain ⟨_, hcl, hcell⟩ := World.cells?_some hcs
      have hjl : j < c.length := (List.getElem?_eq_some_iff.1 hj).1
      have := hcell j (by omega)
      rw [hj, hc] at this
      rw [← this, addr_add_add]
    obtain ⟨xs, hxl, hxs⟩ := list_of_ex _ len each
    have hcl : ∀ (i : Nat) (vc : α × List Value), xs[i]? = some vc → vc.2.length = sz := fun i vc hi => by
      obtain ⟨_, h2, _⟩ := hxs i vc hi
      rw [h2.length, d.len, hd]
    have hspot : 0 < len → a.spot = none := fun h0 => by
      obtain ⟨vc, hvc⟩ : ∃ vc, xs[0]? = some vc := ⟨_, List.getElem?_eq_getElem (by omega)⟩
      obtain ⟨_, _, h3⟩ := hxs 0 vc hvc
      have h4 := hcl 0 vc hvc
      have h5 : 0 < vc.2.length := by omega
      have := h3 0 vc.2[0] (List.getElem?_eq_getElem h5)
      simp only [Nat.zero_mul, Nat.add_zero] at this
      have h6 : a.add 0 = a := by simp [Addr.add]
      rw [h6] at this
      unfold World.cell? at this
      split at this
      · split at this
        · cases this
        · rename_i h7; simpa using h7
      · cases this
    have hrr : RepRows w (fun b => b < w.heap.size) sz (xs.map fun vc => d.en vc.1) (xs.map fun vc => vc.2) := by
      have key : ∀ (l : List (α × List Value)), (∀ vc ∈ l, RepRow w (fun b => b < w.heap.size) (d.en vc.1) vc.2) → RepRows w (fun b => b < w.heap.size) sz (l.map fun vc => d.en vc.1) (l.map fun vc => vc.2) := by
        intro l
        induction l with
        | nil => intro _; trivial
        | cons vc l ih => intro h; exact ⟨⟨by rw [d.len, hd], h vc (by simp)⟩, ih fun vc' h' => h vc' (by simp [h'])⟩
      refine key xs fun vc hvc => ?_
      obtain ⟨i, hi⟩ := List.getElem?_of_mem hvc
      exact (hxs i vc hi).2.1
    have hlen' : (xs.map fun vc => d.en vc.1).length = len := by simp [hxl]
    have hmx : maxLen ≤ 9223372036854775807 := by unfold maxLen; omega
    refine ⟨xs.map (·.1), ⟨?_, trivial⟩, by simp; omega, fun x hx => ?_⟩
    · show Rep w _ (.lst sz ((xs.map (·.1)).map d.en)) _
      have e1 : (xs.map (·.1)).map d.en = xs.map fun vc => d.en vc.1 := by simp
      rw [e1]
      by_cases h0 : len = 0
      · have hx0 : xs = [] := List.eq_nil_of_length_eq_zero (by omega)
        subst hx0
        subst h0
        exact .lst sz [] (some a) cap (fun _ _ => undef) (by simp) (by simp) (by simp) (by simp) (by simp) (by simp) (by simp)
      · have h8 := hspot (by omega)
        obtain ⟨b, off, spot⟩ := a
        simp only at h8
        subst h8
        rw [← hlen']
        refine Rep.of_list (by rw [hlen']; omega) (by rw [hlen']; omega) (by simp) (by simp) hrr fun _ => ⟨b, off, rfl, ?_, fun i j v x hv hx => ?_⟩
        · have h5 : 0 < xs.length := by omega
          obtain ⟨_, _, h3⟩ := hxs 0 xs[0] (List.getElem?_eq_getElem h5)
          have h4 := hcl 0 xs[0] (List.getElem?_eq_getElem h5)
          have h6 : 0 < xs[0].2.length := by omega
          have := h3 0 xs[0].2[0] (List.getElem?_eq_getElem h6)
          rw [add_zero'] at this
          unfold World.cell? at this
          split at this
          · rename_i hb; exact (Array.getElem?_eq_some_iff.1 hb).1
          · cases this
        · rw [List.getElem?_map, Option.map_eq_some_iff] at hv
          obtain ⟨vc, hvc, rfl⟩ := hv
          obtain ⟨_, _, h3⟩ := hxs i vc hvc
          have := h3 j x hx
          rw [add_zero'] at this
          rw [Nat.add_assoc]
          exact this
    · rw [List.mem_map] at hx
      obtain ⟨vc, hvc, rfl⟩ := hx
      obtain ⟨i, hi⟩ := List.getElem?_of_mem hvc
      exact (hxs i vc hi).1
/-- A struct's fields from the i-th on, from cell o on. -/
def OpnF {α : Type} (enc : TypeId × Value → H) (P : Program) (w : World) (base : Nat) (sp : Nat → Bool) (held : Bool) (fs : Array Field) (N i o : Nat) (d : Rw α) (ok : α → Prop) : Prop :=
  ∀ (n : Nat) (cs : List Value) (xs : List (DataW H × List MemPlace)), cs.length = N → xs.length = fs.size →
    (∀ (j : Nat) (f : Field), fs[j]? = some f → DataW.trod enc P w base sp held n f.type ((cs.drop f.offset).take (P.cellsOf f.type)) = xs[j]?) → ∃ v, RepRow w (fun b => b < w.heap.size) (d.en v) (cs.drop o) ∧ ok v
theorem OpnF.last {α : Type} {fs : Array Field} {N i o : Nat} {d : Rw α} {ok : α → Prop} (t c : Nat) (f : Field) (hf : fs[i]? = some f) (ho : f.offset = o) (ht : f.type = t) (hc : P.cellsOf t = c) (hN : o + c = N) (h : Opn enc P w base sp held t d ok) :
    OpnF enc P w base sp held fs N i o d ok := by
  intro n cs xs hl hx hj
  have h1 := hj i f hf
  have hi : i < xs.length := by rw [hx]; exact (Array.getElem?_eq_some_iff.1 hf).1
  rw [List.getElem?_eq_getElem hi, ho, ht, hc, List.take_of_length_le (by rw [List.length_drop]; omega)] at h1
  exact h n _ _ h1
theorem OpnF.cons {α β : Type} {fs : Array Field} {N i o : Nat} {d : Rw α} {d' : Rw β} {ok : α → Prop} {ok' : β → Prop} (t c : Nat) (f : Field) (hf : fs[i]? = some f) (ho : f.offset = o) (ht : f.type = t) (hc : P.cellsOf t = c) (h : Opn enc P w base sp held t d ok)
    (h' : OpnF enc P w base sp held fs N (i + 1) (o + c) d' ok') : OpnF enc P w base sp held fs N i o (rwP d d') (fun v => ok v.1 ∧ ok' v.2) := by
  intro n cs xs hl hx hj
  have h1 := hj i f hf
  have hi : i < xs.length := by rw [hx]; exact (Array.getElem?_eq_some_iff.1 hf).1
  rw [List.getElem?_eq_getElem hi, ho, ht, hc] at h1
  obtain ⟨v, hK, hok⟩ := h n _ _ h1
  obtain ⟨v', hK', hok'⟩ := h' n cs xs hl hx hj
  refine ⟨(v, v'), ?_, hok, hok'⟩
  have := hK.append hK'
  rw [← List.drop_drop, List.take_append_drop] at this
  exact this
theorem Opn.struct {α : Type} {T : TypeId} {fs : Array Field} {N : Nat} {d : Rw α} {ok : α → Prop} (hu : P.underlying T = some (.struct fs)) (hN : P.cellsOf T = N) (h : OpnF enc P w base sp held fs N 0 0 d ok) : Opn enc P w base sp held T d ok := by
  intro n cs x hx
  obtain ⟨xs, m, rfl, _, hl, hlen, hf⟩ := DataW.trod_struct hu hx
  have := h m cs xs (by rw [hl, hN]) hlen hf
  simpa using this
theorem Opn.agg {α : Type} {T : TypeId} {fs : Array Field} {d : Rw α} {ok : α → Prop} (h : Opn enc P w base sp held T d ok) {r : Reach} {b0 : Nat} {v : Value} {x : DataW H} {p : List MemPlace} (hs : P.underlying T = some (.struct fs))
    (hv : Value.okWide P w r b0 T v) (ht : DataW.Trod enc P w base sp held T v x p) : ∃ a, RepS1 w (fun b => b < w.heap.size) (.agg d.ks) (d.en a) v ∧ ok a := by
  obtain ⟨cs, rfl, _⟩ := Go.WideShapes.okWide_struct hs hv
  obtain ⟨n, hn⟩ := ht
  obtain ⟨a, hK, hok⟩ := h n _ _ hn
  exact ⟨a, ⟨_, rfl, d.hok a, hK⟩, hok⟩
end
/-! ### 17. Special operations -/
section
variable {P : Program} {F : FnE} {n : Nat} {S0 : Nat → Prop} {base : Nat} {W0 : World} {Z : Option Mb} {s : St} {m : Bm} {ρ : List PD} {a : Act} {w : World}
/-- The state behind an operation whose answer is told by new letters. -/
def St.got (s : St) (n : Nat) (d : Option Nat) (sh : Sh) : RR :=
  St.set { s with hps := knews s.nv s.nb sh.ks ++ s.hps, nb := s.nb + 64, nv := s.nv + sh.ks.length } n d (sh.sv s.nv s.nb)
theorem SRel.got (h : SRel F S0 base W0 Z n s m ρ a w) {w' : World} (hb : Below w.heap.size w w') {sh : Sh} {r : List PD} {u : Value} (hl : sh.ks.length ≤ 64)
    (hr : RepSh w' (Stab S0 base s.hp m w') sh r u) {d : Option Nat} {s' : St} (hs : s.got n d sh = .ok s') : ∃ m', SRel F S0 base W0 Z n s' m' (ρ ++ r) (a.put d u) w' := by
  unfold St.got at hs
  obtain ⟨hd, h1, h2, h3, h4, h5, h6, h7⟩ := set_spec hs
  have hp := Pre.append ρ r
  have hat : At (ρ ++ r) s.nv r := by rw [← h.nv]; exact at_end ρ _
  obtain ⟨q1, q2⟩ := hr.oks
  have hf : ∀ g, s.nb ≤ g → g < s.nb + 64 → m g = none := fun g c1 _ => h.nb g c1
  obtain ⟨e1, e2, e3, e4⟩ := eff_news ((h.hr.world hb).weak hp fun _ _ h => h) hl hf q1 q2 hat
  refine ⟨hdM m s.nb sh.ks (sh.flat u), ?_, ?_, ?_, ?_, ?_, ?_, ?_, fun b hb => e1 0 b (h.z b hb), by rw [h6]; have := h.nb1; show 1 ≤ s.nb + 64; omega⟩
  · rw [h1]; exact (h.tr.mono e1 hp).put hd fun _ => sh_ev hr hat (fun g c1 c2 => hf g c1 (by omega)) (Bm.le_refl _)
  · rw [show s'.hp = updA s.hp (knews s.nv s.nb sh.ks) by unfold St.hp; rw [h2]; exact hp_append _ s.hps]; exact e3
  · rw [h3]; exact h.kn.mono hp
  · rw [h4]; exact h.gm.mono hp
  · rw [h5]; exact h.cm.mono hp
  · intro g hg; rw [h6] at hg; simp only at hg; rw [e2 g (by omega)]; exact h.nb g (by omega)
  · rw [h7]; simp [h.nv, K4.oks_length q1]
/-! tests that are known, or asked for -/
/-! a slice of a slice -/
def PSUB : Nat := 1000001
/-- .. in Lean's own words. -/
def xsub {α : Type} (l : List α) (lo hi : Int) : Option (List α) := if 0 ≤ lo ∧ lo ≤ hi ∧ hi ≤ l.length then some ((l.take hi.toNat).drop lo.toNat) else none
theorem xsub_ap {α : Type} (et sz : Nat) (r : Rw α) (h : r.ks.length = sz) (l : List α) (lo hi : Int) : subApp [.lst sz (l.map r.en), .int lo, .int hi] = (xsub l lo hi).map (rwL et sz r h).en := by
  unfold subApp xsub
  simp only [List.length_map]
  by_cases g : 0 ≤ lo ∧ lo ≤ hi ∧ hi ≤ (l.length : Int)
  · rw [if_pos g, if_pos g]
    simp [rwL, List.map_take, List.map_drop]
  · rw [if_neg g, if_neg g]; rfl
def subGo (env : Env) (n : Nat) (s : St) (dst : Option Nat) (k et sz : Nat) (lo hi : E) (more : List B) : Option XR :=
  match chkB (knB s.kn) (B.le' (.nu 0) lo :: B.le' lo hi :: B.le' hi (.lens [k] 0) :: more) with
  | some none => match s.got n dst (.one (.one (.l et sz))) with
    | .ok s' => some (.ask PSUB [.li k, .ex lo, .ex hi] [.l et sz] s')
    | _ => none
  | some (some c) => some (.fork c)
  | none => none
def subExt (env : Env) (n : Nat) : Ext := fun s o => match o.op with
  | .slice t x lo hi mx => match opc s.rd x, env.tys.lookup t with
    | some (.hd g), some d => match d.desc with
      | .slice e => match env.tys.lookup e, s.hp g with
        | some de, some (.per k et sz) => if de.sz = sz ∧ sz ≠ 0 then (match optE s.rd (.nu 0) lo, optE s.rd (.lens [k] 0) hi with
          | some l, some h => match lo, hi, mx with
            | _, _, none => subGo env n s o.dst k et sz l h []
            | some _, some _, some y => match opc s.rd y with
              | some (.ex q) => subGo env n s o.dst k et sz l h [B.le' h q, B.le' q (.lens [k] 0)]
              | _ => none
            | _, _, _ => none
          | _, _ => none) else none
        | some _, some (.own _ _ _) => some (.fix g)
        | _, _ => none
      | _ => none
    | _, _ => none
  | _ => none
end
section
variable {P : Program} {env : Env} {F : FnE} {n : Nat} {s : St} {ρ : List PD} {m : Bm} {a : Act} {w : World}
theorem subGo_ok {dst : Option Nat} {k et sz : Nat} {lo hi : E} {more : List B} {f : Nat} {pcs : List PC} {ks : List K4} {s' : St} (hx : subGo env n s dst k et sz lo hi more = some (.ask f pcs ks s')) :
    f = PSUB ∧ pcs = [.li k, .ex lo, .ex hi] ∧ s.got n dst (.one (.one (.l et sz))) = .ok s' ∧ chkB (knB s.kn) (B.le' (.nu 0) lo :: B.le' lo hi :: B.le' hi (.lens [k] 0) :: more) = some none := by
  unfold subGo at hx
  split at hx
  · rename_i hc
    split at hx
    · rename_i s1 hs
      cases hx
      exact ⟨rfl, rfl, hs, hc⟩
    · cases hx
  · cases hx
  · cases hx
end
section
variable {P : Program} {env : Env} {F : FnE} {n : Nat}
theorem subExt_ok (hE : EnvOk P env) (hF : F PSUB = subApp) : ExtOk P F n (subExt env n) := by
  intro S0 base W0 Z s o f pcs ks s' hx m ρ a w ps r h hps hf hks K Q hK
  have ht : ∀ x, OpOk m ρ s.rd a x := fun x => opOk_tm h.tr rfl x
  unfold subExt at hx
  split at hx
  case h_2 => cases hx
  rename_i t x lo hi mx hop
  split at hx
  case h_2 => cases hx
  rename_i g d hxx htd
  split at hx
  case h_2 => cases hx
  rename_i e hde
  split at hx
  case h_2 => cases hx
  case h_3 => cases hx
  rename_i de k et sz hte hpg
  split at hx
  case isFalse => cases hx
  rename_i hsz
  obtain ⟨hsz, hz⟩ := hsz
  split at hx
  case h_2 => cases hx
  rename_i l hh hl hhh
  obtain ⟨hu, _⟩ := hE.tys t d htd
  rw [hde] at hu
  obtain ⟨_, i, hinf, _, his, _⟩ := hE.tys e de hte
  have hel := elem_of hu
  obtain ⟨ad, nn, c, rows, hm, hr, hrep⟩ := h.hr.hps g _ hpg
  have hxv : a.eval x = .slice ad nn c := by
    have := opc_ok (ht x) hxx
    simp only [C.ev, hm, Option.some.injEq] at this
    exact this.symm
  have hcap := hrep.cap
  have hnn : nn = rows.length := hrep.list.1
  -- what the letters say
  have key : ∀ (more : List B), subGo env n s o.dst k et sz l hh more = some (.ask f pcs ks s') → ∃ lv hv : Int, l.ev ρ = some lv ∧ hh.ev ρ = some hv ∧ 0 ≤ lv ∧ lv ≤ hv ∧ hv ≤ rows.length ∧ (∀ b ∈ more, b.ev ρ = some true) ∧
      (∀ M : Nat, hv ≤ M → M ≤ c → (execOp a.eval o).run P w = .ok (.value (Go.sliced ad lv.toNat hv.toNat M sz)) w → o.wp P a w K Q) := by
    intro more hgo
    obtain ⟨rfl, rfl, hs', hc⟩ := subGo_ok hgo
    have hall := chkB_ok (knB_ok h.kn) hc
    simp only [pds, PC.pd, hr, Option.bind_some, Option.bind_eq_some_iff, Option.map_eq_some_iff, Option.some.injEq] at hps
    obtain ⟨_, ⟨_, ⟨lv, hlv, rfl⟩, _, ⟨_, ⟨hv, hhv, rfl⟩, rfl⟩, rfl⟩, rfl⟩ := hps
    have hlen : (E.lens [k] 0).ev ρ = some ((rows.length : Nat) : Int) := by simp [E.ev, lensEv, hr]
    have h0 := le'_true (ρ := ρ) (x := .nu 0) (u := 0) rfl hlv (hall _ (by simp))
    have h1 := le'_true hlv hhv (hall _ (by simp))
    have h2 := le'_true hhv hlen (hall _ (by simp))
    refine ⟨lv, hv, hlv, hhv, h0, h1, h2, fun b hb => hall b (by simp [hb]), fun M hM1 hM2 hrun => ?_⟩
    rw [hF] at hf
    simp only [subApp, if_pos (And.intro h0 (And.intro h1 h2)), Option.some.injEq] at hf
    subst hf
    have hrep' := hrep.sliced (l := lv.toNat) (hi := hv.toNat) (mx := M) (by omega) (by omega) (by omega) hM2
    have hsh : RepSh w (Stab S0 base s.hp m w) (.one (.one (.l et sz))) [.lst sz ((rows.take hv.toNat).drop lv.toNat)] (Go.sliced ad lv.toNat hv.toNat M sz) := ⟨_, rfl, by simp [K4.ok], hrep'⟩
    obtain ⟨m', hrel⟩ := h.got (Below.refl _ _) (by simp [Sh.ks, S1.ks]) hsh hs'
    unfold Oper.wp
    rw [hrun]
    exact hK m' _ w hrel
  -- what is run
  have hex : execOp a.eval o = (Instr.sliceAt t (a.eval x) (lo.map a.eval) (hi.map a.eval) (mx.map a.eval)) >>= fun u => pure (.value u) := by
    unfold execOp; rw [hop]
  have hsz' : ∀ w : World, (Go.sizeOf e).run P w = .ok sz w := fun w => by rw [run_sizeOf' hinf w, his, hsz]
  have hue : P.underlying t = some (.slice (P.elem t)) := by rw [hel]; exact hu
  split at hx
  · -- no greatest capacity
    obtain ⟨lv, hv, e1, e2, h0, h1, h2, _, hgo⟩ := key _ hx
    have run : (execOp a.eval o).run P w = .ok (.value (Go.sliced ad lv.toNat hv.toNat c sz)) w := by
      rw [hex, hxv]
      rcases optE_ok (fun z _ => ht z) hl e1 with ⟨rfl, rfl⟩ | ⟨y, rfl, hy⟩ <;> rcases optE_ok (fun z _ => ht z) hhh e2 with ⟨rfl, rfl⟩ | ⟨z, rfl, hz'⟩
      · simp only [E.ev, Option.some.injEq] at e1
        simp only [E.ev, lensEv, hr, Option.map_some, Option.bind_some, Option.some.injEq] at e2
        subst e1
        have : hv.toNat = nn := by omega
        simp [Sem.run_bind, run_sliceAt_slice _ t _ _ _ _ hue, run_slice_all _ t ad nn c hue, hel, hsz', Result.andThen, this]
      · simp only [E.ev, Option.some.injEq] at e1
        subst e1
        simp [Sem.run_bind, run_sliceAt_slice _ t _ _ _ _ hue, hz', run_slice_h _ t ad nn c hue .i64 hv (by omega) (by omega), hel, hsz', Result.andThen]
      · simp only [E.ev, lensEv, hr, Option.map_some, Option.bind_some, Option.some.injEq] at e2
        have : hv.toNat = nn := by omega
        simp [Sem.run_bind, run_sliceAt_slice _ t _ _ _ _ hue, hy, run_slice_l _ t ad nn c hue .i64 lv h0 (by omega), hel, hsz', Result.andThen, this]
      · simp [Sem.run_bind, run_sliceAt_slice _ t _ _ _ _ hue, hy, hz', run_slice_lh _ t ad nn c hue .i64 .i64 lv hv h0 h1 (by omega), hel, hsz', Result.andThen]
    exact hgo c (by omega) (Nat.le_refl _) run
  · rename_i y z q
    split at hx
    case h_2 => cases hx
    rename_i qe hq
    obtain ⟨lv, hv, e1, e2, h0, h1, h2, hmore, hgo⟩ := key _ hx
    have hqv := opc_ok (ht q) hq
    simp only [C.ev, Option.map_eq_some_iff] at hqv
    obtain ⟨qv, q1, q2⟩ := hqv
    have hlen : (E.lens [k] 0).ev ρ = some ((rows.length : Nat) : Int) := by simp [E.ev, lensEv, hr]
    have g1 := le'_true e2 q1 (hmore _ (by simp))
    have g2 := le'_true q1 hlen (hmore _ (by simp))
    have hy : a.eval y = .int .i64 lv := by
      rcases optE_ok (fun z _ => ht z) hl e1 with ⟨c1, _⟩ | ⟨y', c1, hy⟩
      · cases c1
      · cases c1; exact hy
    have hz' : a.eval z = .int .i64 hv := by
      rcases optE_ok (fun z _ => ht z) hhh e2 with ⟨c1, _⟩ | ⟨z', c1, hz'⟩
      · cases c1
      · cases c1; exact hz'
    have run : (execOp a.eval o).run P w = .ok (.value (Go.sliced ad lv.toNat hv.toNat qv.toNat sz)) w := by
      rw [hex, hxv]
      simp [Sem.run_bind, run_sliceAt_slice _ t _ _ _ _ hue, hy, hz', ← q2, run_slice_lhm _ t ad nn c hue .i64 .i64 .i64 lv hv qv h0 h1 g1 (by omega), hel, hsz', Result.andThen]
    exact hgo qv.toNat (by omega) (by omega) run
  · cases hx
end
/-! ### 18. Calls that hand out a list of the call's own, or turn one -/
section
variable {P : Program} {env : Env} {F : FnE} {n : Nat} {S0 : Nat → Prop} {base : Nat} {W0 : World} {Z : Option Mb} {s : St} {hp : HpF} {m : Bm} {ρ : List PD} {a : Act} {w w' : World}
theorem ownsRow_base {B B' e size k : Nat} {v : Value} {xs : List Value} (h : w.ownsRow B e size v k xs) (hb : B' ≤ B) : w.ownsRow B' e size v k xs := by
  refine ⟨h.1, ?_⟩
  rcases h.2 with q | ⟨g, cap, cur, q1, q2, q3⟩
  · exact .inl q
  · exact .inr ⟨g, cap, cur, q1, Nat.le_trans hb q2, q3⟩
theorem ownsRow_form {B e size k : Nat} {v : Value} {xs : List Value} (h : w.ownsRow B e size v k xs) : ∃ ad c, v = .slice ad k c := by
  rcases h.2 with ⟨q1, q2⟩ | ⟨g, cap, cur, q1, _⟩
  · exact ⟨none, 0, by rw [q1, q2]⟩
  · exact ⟨_, _, q1⟩
/-- A new list of the call's own. -/
theorem own_new (hH : HR S0 base W0 hp m ρ w) {nb et sz : Nat} (hnn : m nb = none) (hb : Below w.heap.size w w') {ad : Option Addr} {k c : Nat} {rows : List (List PD)} {vals : List (List Value)} {L : LE} (hL : LE.rows ρ L = some rows) (hn : rows.length = k)
    (hR : RepRows w' (Stab S0 base hp m w) sz rows vals) (hz : sz ≠ 0) (hown : w'.ownsRow w.heap.size et sz (.slice ad k c) k vals.flatten) : HR S0 base W0 (updA hp [(nb, some (.own L et sz))]) (updM m nb (.ow ad k c)) ρ w' := by
  have hle : Bm.le m (updM m nb (.ow ad k c)) := updM_le hnn
  refine hH.upd hle (Pre.refl ρ) (hb.mono hH.le) none (by simp) (fun b hlt _ => hb.block b hlt) (fun g => g = nb) (fun g c' hc hne => ?_) (fun g c' b hg hc _ hbl => ?_) (fun g g' c c' b h1 h2 _ _ _ _ _ _ => by rw [h1, h2]) (fun hS hW g c' hg hc => ?_)
  · simp only [updA, lk] at hc
    rw [if_neg (Ne.symm hne)] at hc
    exact ⟨hc, by simp⟩
  · subst hg
    simp only [updM, if_pos] at hbl
    rcases hown.2 with ⟨q1, _⟩ | ⟨g2, cap, cur, q1, q2, q3, _⟩
    · cases q1; simp [blkOf] at hbl
    · cases q1
      simp only [blkOf, Option.some.injEq] at hbl
      subst hbl
      exact ⟨.inl q2, (Array.getElem?_eq_some_iff.1 q3).1⟩
  · subst hg
    simp only [updA, lk, if_pos, Option.some.injEq] at hc
    subst hc
    exact ⟨ad, k, c, rows, vals, by simp [updM], hL, hn, hR.mono hS (fun _ _ => rfl), ownsRow_base hown hH.le, hz⟩
/-- A list of the call's own, turned where it lies. -/
theorem own_same (hH : HR S0 base W0 hp m ρ w) {g et sz : Nat} {c0 : HC} (hg : hp g = some c0) (hwr : c0.wr = true) {ad : Option Addr} {k c : Nat} (hm : m g = some (.ow ad k c)) (hgr : w.grownBy w' (Value.slice ad k c).ownBlock)
    {rows : List (List PD)} {vals : List (List Value)} {L : LE} (hL : LE.rows ρ L = some rows) (hn : rows.length = k)
    (hR : RepRows w' (Stab S0 base hp m w) sz rows vals) (hz : sz ≠ 0) (hown : w'.ownsRow base et sz (.slice ad k c) k vals.flatten) : HR S0 base W0 (updA hp [(g, some (.own L et sz))]) m ρ w' := by
  have hob : (Value.slice ad k c).ownBlock = blkOf (some (.ow ad k c)) := by cases ad <;> rfl
  refine hH.upd (Bm.le_refl m) (Pre.refl ρ) ⟨hgr.os, hgr.tape, hgr.output, hgr.size, fun q hq => hgr.block q (Nat.lt_of_lt_of_le hq hH.le) fun e => ?_⟩ (Value.slice ad k c).ownBlock (fun b hb => ⟨g, c0, hg, hwr, by rw [hm, ← hob]; exact hb⟩)
    (fun b hb hne => hgr.block b hb (Ne.symm hne)) (fun g' => g' = g) (fun g' c' hc hne => ?_) (fun g' c' b hg' hc _ hbl => ?_) (fun g' g'' c c' b h1 h2 _ _ _ _ _ _ => by rw [h1, h2]) (fun hS hW g' c' hg' hc => ?_)
  · have := (hH.low g c0 q hg hwr (by rw [hm, ← hob]; exact e.symm)).1
    omega
  · simp only [updA, lk] at hc
    rw [if_neg (Ne.symm hne)] at hc
    exact ⟨hc, fun hwr' b hb hX => hne (hH.inj g' g c' c0 b hc hg hwr' hwr hb (by rw [hm, ← hob]; exact hX))⟩
  · subst hg'
    rw [hm, ← hob] at hbl
    exact ⟨.inr hbl, (hown.lt b hbl).2⟩
  · subst hg'
    simp only [updA, lk, if_pos, Option.some.injEq] at hc
    subst hc
    exact ⟨ad, k, c, rows, vals, hm, hL, hn, hR.mono hS (fun _ _ => rfl), hown, hz⟩
/-- What is told of a function that hands out a new list of its own: pid: what it computes, as a function of lists. -/
def MkOk (P : Program) (F : FnE) (fid pid et sz : Nat) (ex : List Nat) (asz : Nat) : Prop := (∀ args w, (callFunc fid args).run P w = .ok (.enter fid args) w) ∧ sz ≠ 0 ∧
  ∀ rows r, F pid [.lst asz rows] = some r → ∃ rows', r = [.lst sz rows'] ∧ ∀ (w : World) (S : Nat → Prop) (v : Value), (∀ b, S b → b < w.heap.size) → Rep w S (.lst asz rows) v → Calls P fid (v :: ex.map fun f => .func (.func f) #[] #[]).toArray w fun
    | .returned u, w' => ∃ vals, RepRows w' S sz rows' vals ∧ w'.ownsRow w.heap.size et sz u rows'.length vals.flatten ∧ Below w.heap.size w w'
    | _, _ => False
/-- .. of one that turns a list of the caller's own. -/
def MuOk (P : Program) (F : FnE) (fid pid et sz : Nat) (ex : List Nat) : Prop := (∀ args w, (callFunc fid args).run P w = .ok (.enter fid args) w) ∧ sz ≠ 0 ∧
  ∀ sz0 rows r, F pid [.lst sz0 rows] = some r → ∃ rows', r = [.lst sz rows'] ∧ rows'.length = rows.length ∧ ∀ (w : World) (S : Nat → Prop) (base : Nat) (v : Value) (vals : List (List Value)), (∀ b, S b → b < w.heap.size) → (∀ b, v.ownBlock = some b → ¬ S b) → RepRows w S sz rows vals → w.ownsRow base et sz v rows.length vals.flatten → base ≤ w.heap.size →
    Calls P fid (v :: ex.map fun f => .func (.func f) #[] #[]).toArray w fun
    | .returned u, w' => u = .tuple #[] ∧ ∃ vals', RepRows w' S sz rows' vals' ∧ w'.ownsRow base et sz v rows'.length vals'.flatten ∧ w.grownBy w' v.ownBlock
    | _, _ => False
def exOk : List Operand → List Nat → Bool
  | [], [] => true
  | .func k :: xs, j :: js => decide (k = j) && exOk xs js
  | _, _ => false
theorem exOk_ev : ∀ {xs : List Operand} {js : List Nat}, exOk xs js = true → xs.map a.eval = js.map fun f => .func (.func f) #[] #[]
  | [], [], _ => rfl
  | .func k :: xs, j :: js, h => by
    simp only [exOk, Bool.and_eq_true, decide_eq_true_eq] at h
    obtain ⟨rfl, h2⟩ := h
    simp [Act.eval, exOk_ev h2]
  | [], _ :: _, h => by simp [exOk] at h
  | .tmp _ :: _, _, h => by simp [exOk] at h
  | .const _ :: _, _, h => by simp [exOk] at h
  | .global _ :: _, _, h => by simp [exOk] at h
  | .func _ :: _, [], h => by simp [exOk] at h
structure OwE where
  mu : Bool
  pid : Nat
  et : Nat
  sz : Nat
  ex : List Nat
  asz : Nat
def St.mkd (s : St) (n : Nat) (d : Option Nat) (et sz : Nat) : RR := St.set { s with hps := (s.nb, some (.own [.va s.nv] et sz)) :: s.hps, nb := s.nb + 64, nv := s.nv + 1 } n d (.one (.ce (.hd s.nb)))
def St.mud (s : St) (n : Nat) (d : Option Nat) (g et sz : Nat) : RR := St.set { s with hps := (g, some (.own [.va s.nv] et sz)) :: s.hps, nv := s.nv + 1 } n d (.tup [])
def owExt (n : Nat) (tab : List (Nat × OwE)) : Ext := fun s o => match o.op with
  | .call c => match c.callee, c.args.toList with
    | .value (.func f), x :: xs => match lk f tab, opc s.rd x with
      | some e, some (.hd g) => if exOk xs e.ex = true then (match e.mu, s.hp g with
        | false, some (.per k _ sz) => if sz = e.asz then (match s.mkd n o.dst e.et e.sz with
          | .ok s' => some (.ask e.pid [.li k] [.l e.et e.sz] s')
          | _ => none) else none
        | false, some (.own _ _ _) => some (.fix g)
        | true, some (.own [.va k] et sz) => if sz = e.sz ∧ et = e.et then (match s.mud n o.dst g e.et e.sz with
          | .ok s' => some (.ask e.pid [.li k] [.l e.et e.sz] s')
          | _ => none) else none
        | true, some (.own _ _ _) => some (.nm g)
        | _, _ => none) else none
      | _, _ => none
    | _, _ => none
  | _ => none
def OwOk (P : Program) (F : FnE) (tab : List (Nat × OwE)) : Prop := ∀ f e, lk f tab = some e → if e.mu = true then MuOk P F f e.pid e.et e.sz e.ex else MkOk P F f e.pid e.et e.sz e.ex e.asz
end
section
variable {P : Program} {F : FnE} {n : Nat}
theorem owExt_ok {tab : List (Nat × OwE)} (hT : OwOk P F tab) : ExtOk P F n (owExt n tab) := by
  intro S0 base W0 Z s o f pcs ks s' hx m ρ a w ps r h hps hf hks K Q hK
  unfold owExt at hx
  split at hx
  case h_2 => cases hx
  rename_i c hop
  obtain ⟨dst, op, type, pos, after, guard⟩ := o
  simp only at hop
  subst hop
  split at hx
  case h_2 => cases hx
  rename_i fid x xs hcal hargs
  obtain ⟨callee, args, ats⟩ := c
  simp only at hcal hargs
  subst hcal
  split at hx
  case h_2 => cases hx
  rename_i e g htab hxx
  split at hx
  case isFalse => cases hx
  rename_i hex
  have ht := hT fid e htab
  have hav : args.map a.eval = (a.eval x :: e.ex.map fun f => .func (.func f) #[] #[]).toArray := map_toList2 (by rw [hargs, List.map_cons, exOk_ev hex])
  have hrun : execOp a.eval { dst := dst, op := .call { callee := .value (.func fid), args := args, argTypes := ats }, type := type, pos := pos, after := after, guard := guard } = callFunc fid (a.eval x :: e.ex.map fun f => .func (.func f) #[] #[]).toArray := by
    rw [execOp_call_go, hav]; simp
  have hxv := opc_ok (opOk_tm h.tr rfl x) hxx
  split at hx
  · -- a new list
    rename_i k et sz hmu hpg
    rw [if_neg (by simp [hmu])] at ht
    split at hx
    case isFalse => cases hx
    rename_i hsz
    subst hsz
    split at hx
    case h_2 => cases hx
    rename_i s1 hs
    simp only [Option.some.injEq, XR.ask.injEq] at hx
    obtain ⟨rfl, rfl, rfl, rfl⟩ := hx
    obtain ⟨ad, nn, cc, rows, hm, hr, hrep⟩ := h.hr.hps g _ hpg
    simp only [C.ev, hm, Option.some.injEq] at hxv
    simp only [pds, PC.pd, hr, Option.bind_some, Option.some.injEq] at hps
    subst hps
    obtain ⟨he, hz, hc⟩ := ht
    obtain ⟨rows', rfl, hc⟩ := hc rows r hf
    have hp := Pre.append ρ [.lst e.sz rows']
    unfold Oper.wp
    rw [hrun, he _ w]
    refine Calls.mono (hc w (Stab S0 base s.hp m w) _ (fun b hb => hb.2.1) (by rw [← hxv]; exact hrep)) fun u w' hu => ?_
    cases u with
    | panicked _ => exact hu.elim
    | outgrown => exact hu.elim
    | returned u =>
      obtain ⟨vals, q1, q2, q3⟩ := hu
      obtain ⟨ad', c', rfl⟩ := ownsRow_form q2
      unfold St.mkd at hs
      obtain ⟨hd, h1, h2, h3, h4, h5, h6, h7⟩ := set_spec hs
      have hat : (ρ ++ [PD.lst e.sz rows'])[s.nv]? = some (.lst e.sz rows') := by rw [← h.nv]; simp
      have hnn := h.nb s.nb (Nat.le_refl _)
      have hle : Bm.le m (updM m s.nb (.ow ad' rows'.length c')) := updM_le hnn
      have hnew := own_new (h.hr.weak hp fun _ _ h => h) (L := [.va s.nv]) hnn q3 (by simp [LE.rows, hat]) rfl q1 hz q2
      refine hK _ _ w' ⟨?_, ?_, h3 ▸ h.kn.mono hp, h4 ▸ h.gm.mono hp, h5 ▸ h.cm.mono hp, fun q hq => ?_, ?_, fun b hb => hle 0 b (h.z b hb), by rw [h6]; have := h.nb1; show 1 ≤ s.nb + 64; omega⟩
      · rw [h1]; exact (h.tr.mono hle hp).put hd fun _ => by simp [SV.ev, T1.ev, C.ev, updM]
      · rw [show s1.hp = updA s.hp [(s.nb, some (.own [.va s.nv] e.et e.sz))] by unfold St.hp; rw [h2]; exact hp_append [(s.nb, some (.own [.va s.nv] e.et e.sz))] s.hps]; exact hnew
      · rw [h6] at hq; simp only at hq; simp only [updM]; rw [if_neg (by omega)]; exact h.nb q (by omega)
      · rw [h7]; simp [h.nv]
  · cases hx
  · -- a list that is turned
    rename_i k et sz hmu hpg
    rw [if_pos hmu] at ht
    split at hx
    case isFalse => cases hx
    rename_i hsz
    obtain ⟨rfl, rfl⟩ := hsz
    split at hx
    case h_2 => cases hx
    rename_i s1 hs
    simp only [Option.some.injEq, XR.ask.injEq] at hx
    obtain ⟨rfl, rfl, rfl, rfl⟩ := hx
    obtain ⟨ad, nn, cc, rows, vals, hm, hr, hn, hrr, hown, hz0⟩ := h.hr.hps g _ hpg
    simp only [C.ev, hm, Option.some.injEq] at hxv
    obtain ⟨sz0, hrk⟩ : ∃ sz0, ρ[k]? = some (.lst sz0 rows) := by
      simp only [LE.rows] at hr
      split at hr
      · rename_i sz0 rows0 hk
        simp only [Option.map_some, List.append_nil, Option.some.injEq] at hr
        subst hr
        exact ⟨sz0, hk⟩
      · cases hr
    simp only [pds, PC.pd, hrk, Option.bind_some, Option.some.injEq] at hps
    subst hps
    obtain ⟨he, hz, hc⟩ := ht
    obtain ⟨rows', rfl, hlen, hc⟩ := hc sz0 rows r hf
    have hp := Pre.append ρ [.lst e.sz rows']
    have hob : (Value.slice ad nn cc).ownBlock = blkOf (some (.ow ad nn cc)) := by cases ad <;> rfl
    unfold Oper.wp
    rw [hrun, he _ w, ← hxv]
    subst hn
    refine Calls.mono (hc w (Stab S0 base s.hp m w) base _ vals (fun b hb => hb.2.1) (fun b hb hs => hs.2.2 g _ hpg rfl (by rw [hm, ← hob]; exact hb)) hrr hown h.hr.le) fun u w' hu => ?_
    cases u with
    | panicked _ => exact hu.elim
    | outgrown => exact hu.elim
    | returned u =>
      obtain ⟨rfl, vals', q1, q2, q3⟩ := hu
      unfold St.mud at hs
      obtain ⟨hd, h1, h2, h3, h4, h5, h6, h7⟩ := set_spec hs
      have hat : (ρ ++ [PD.lst e.sz rows'])[s.nv]? = some (.lst e.sz rows') := by rw [← h.nv]; simp
      rw [hlen] at q2
      have hnew := own_same (h.hr.weak hp fun _ _ h => h) (L := [.va s.nv]) hpg rfl hm q3 (by simp [LE.rows, hat]) hlen q1 hz q2
      refine hK m _ w' ⟨?_, ?_, h3 ▸ h.kn.mono hp, h4 ▸ h.gm.mono hp, h5 ▸ h.cm.mono hp, fun q hq => ?_, ?_, h.z, by rw [h6]; exact h.nb1⟩
      · rw [h1]; exact (h.tr.mono (Bm.le_refl _) hp).put hd fun _ => rfl
      · rw [show s1.hp = updA s.hp [(g, some (.own [.va s.nv] e.et e.sz))] by unfold St.hp; rw [h2]; exact hp_append [(g, some (.own [.va s.nv] e.et e.sz))] s.hps]; exact hnew
      · rw [h6] at hq; exact h.nb q hq
      · rw [h7]; simp [h.nv]
  · cases hx
  · cases hx
end
/-! ### 19. Special operations together; lists of numbers, copied and sorted -/
def orExt (x y : Ext) : Ext := fun s o => match x s o with
  | some r => some r
  | none => y s o
theorem orExt_ok {P : Program} {F : FnE} {n : Nat} {x y : Ext} (hx : ExtOk P F n x) (hy : ExtOk P F n y) : ExtOk P F n (orExt x y) := by
  intro S0 base W0 Z s o f pcs ks s' h
  unfold orExt at h
  split at h
  · rename_i r hr
    exact hx S0 base W0 Z s o f pcs ks s' (hr.trans h)
  · exact hy S0 base W0 Z s o f pcs ks s' h
theorem owOk_nil {P : Program} {F : FnE} : OwOk P F [] := fun f e h => by simp [lk] at h
theorem owOk_cons {P : Program} {F : FnE} {f : Nat} {e : OwE} {l : List (Nat × OwE)} (h : if e.mu = true then MuOk P F f e.pid e.et e.sz e.ex else MkOk P F f e.pid e.et e.sz e.ex e.asz) (hl : OwOk P F l) : OwOk P F ((f, e) :: l) := fun g e' hg => by
  simp only [lk] at hg
  split at hg
  · rename_i he; subst he; cases hg; exact h
  · exact hl g e' hg
def PCLI : Nat := 1000002
def PSTI : Nat := 1000003
def cliApp : App := fun ps => match ps with
  | [.lst _ rows] => (mapO deI rows).bind fun zs => if zs.length * 8 ≤ 140737488355328 then some [.lst 1 (zs.map rwI.en)] else none
  | _ => none
def stiApp : App := fun ps => match ps with
  | [.lst _ rows] => (mapO deI rows).bind fun zs => if zs.length < 4611686018427387904 then some [.lst 1 ((zs.mergeSort fun x y => decide (x ≤ y)).map rwI.en)] else none
  | _ => none
/-- .. in Lean's own words. -/
def xcli (l : List Int) : Option (List Int) := if l.length * 8 ≤ 140737488355328 then some l else none
def xsti (l : List Int) : Option (List Int) := if l.length < 4611686018427387904 then some (l.mergeSort fun x y => decide (x ≤ y)) else none
theorem xcli_ap (et sz : Nat) (l : List Int) : cliApp [.lst sz (l.map rwI.en)] = (xcli l).map (rwL et 1 rwI rfl).en := by
  unfold cliApp xcli
  simp only [show mapO deI (l.map rwI.en) = some l from mapO_en rwI l, Option.bind_some]
  split <;> rfl
theorem xsti_ap (et sz : Nat) (l : List Int) : stiApp [.lst sz (l.map rwI.en)] = (xsti l).map (rwL et 1 rwI rfl).en := by
  unfold stiApp xsti
  simp only [show mapO deI (l.map rwI.en) = some l from mapO_en rwI l, Option.bind_some]
  split <;> rfl
/-- Rows of numbers, as values. -/
theorem rows_ints {w : World} {S : Nat → Prop} : ∀ {zs : List Int} {vals : List (List Value)}, RepRows w S 1 (zs.map rwI.en) vals → vals = zs.map fun z => [Value.int .i64 z]
  | [], [], _ => rfl
  | z :: zs, v :: vs, h => by
    have h1 := h.1.2
    have e : v = [Value.int .i64 z] := by
      match v, h1 with
      | [u], h1 => have := h1.1; cases this; rfl
    rw [e, rows_ints h.2]; rfl
  | [], _ :: _, h => h.elim
  | _ :: _, [], h => h.elim
theorem ints_rows {w : World} {S : Nat → Prop} : ∀ (zs : List Int), RepRows w S 1 (zs.map rwI.en) (zs.map fun z => [Value.int .i64 z])
  | [] => trivial
  | z :: zs => ⟨⟨rfl, .int z, trivial⟩, ints_rows zs⟩
theorem ints_flat (zs : List Int) : (zs.map fun z => [Value.int .i64 z]).flatten = zs.map (Value.int .i64) := by
  induction zs with
  | nil => rfl
  | cons z zs ih => simp [ih]
theorem mapO_ints {rows : List (List PD)} {zs : List Int} (h : mapO deI rows = some zs) : rows = zs.map rwI.en := mapO_de rwI rows zs h
/-- A list of the call's own whose length is asked is from then on read alone. -/
def lenExt : Ext := fun s o => match o.op with
  | .call c => match c.callee, c.args.toList with
    | .builtin .len, [x] => match opc s.rd x with
      | some (.hd g) => match s.hp g with
        | some (.own _ _ _) => some (.fix g)
        | _ => none
      | _ => none
    | _, _ => none
  | _ => none
theorem lenExt_ok {P : Program} {F : FnE} {n : Nat} : ExtOk P F n lenExt := by
  intro S0 base W0 Z s o f pcs ks s' h
  exfalso
  unfold lenExt at h
  split at h
  · split at h
    · split at h
      · split at h <;> cases h
      · cases h
    · cases h
  · cases h
/-! copies of lists of whatever type -/
def pclo (e : Nat) : Nat := 1001000 + e
def cloApp (bs sz : Nat) : App := fun ps => match ps with
  | [.lst sz' rows] => if sz' = sz ∧ rows.length * bs ≤ 140737488355328 then some [.lst sz rows] else none
  | _ => none
theorem cloApp_some {bs sz : Nat} {rows : List (List PD)} {r : List PD} (h : cloApp bs sz [.lst sz rows] = some r) : r = [.lst sz rows] ∧ rows.length * bs ≤ 140737488355328 := by
  unfold cloApp at h
  simp only at h
  split at h
  · rename_i g; cases h; exact ⟨rfl, g.2⟩
  · cases h
def xclo {α : Type} (bs : Nat) (l : List α) : Option (List α) := if l.length * bs ≤ 140737488355328 then some l else none
theorem xclo_ap {α : Type} (bs et sz : Nat) (r : Rw α) (h : r.ks.length = sz) (l : List α) : cloApp bs sz [.lst sz (l.map r.en)] = (xclo bs l).map (rwL et sz r h).en := by
  unfold cloApp xclo
  simp only [List.length_map, true_and]
  split <;> rfl
/-- A list as it lies: its cells in a row. -/
theorem rep_flat {w : World} {S : Nat → Prop} {sz : Nat} (hz : sz ≠ 0) {rows : List (List PD)} {ad : Option Addr} {n c : Nat} (h : Rep w S (.lst sz rows) (.slice ad n c)) :
    n = rows.length ∧ rows.length ≤ maxLen ∧ (ad = none → rows = []) ∧ ∃ vals, RepRows w S sz rows vals ∧ vals.flatten.length = rows.length * sz ∧ ∀ a, ad = some a → ∀ j u, vals.flatten[j]? = some u → w.cell? (a.add j) = some u := by
  obtain ⟨e1, e2, e3, e4, vals, e5, e6⟩ := h.list
  have hrow := fun v hv => (e5.row v hv).1
  refine ⟨e1, e2, fun h => (e3 h).1, vals, e5, by rw [flatten_length hrow, e5.length], fun a ha j u hj => ?_⟩
  obtain ⟨i, k, v, rfl, hk, hv, hu⟩ := flatten_inv hrow hj
  have hne : rows ≠ [] := by
    intro e
    have h5 := e5.length
    have h6 := (List.getElem?_eq_some_iff.1 hv).1
    rw [h5, e] at h6
    exact absurd h6 (by simp)
  obtain ⟨b, off, g1, _, g3⟩ := e6 hne
  rw [ha] at g1
  cases g1
  rw [add_zero', ← Nat.add_assoc]
  exact g3 i k v u hv hu
/-! ### 20. Calls that turn a list of the call's own and hand it back -/
section
variable {P : Program} {env : Env} {F : FnE} {n : Nat} {S0 : Nat → Prop} {base : Nat} {W0 : World} {Z : Option Mb} {s : St} {hp : HpF} {m : Bm} {ρ : List PD} {a : Act} {w w' : World}
theorem own_next (hH : HR S0 base W0 hp m ρ w) {g nb et sz : Nat} {c0 : HC} (hg : hp g = some c0) (hwr : c0.wr = true) (hnn : m nb = none) {ad : Option Addr} {k c : Nat} (hm : m g = some (.ow ad k c)) (hgr : w.grownBy w' (Value.slice ad k c).ownBlock)
    {rows : List (List PD)} {vals : List (List Value)} {L : LE} {ad' : Option Addr} {k' c' : Nat} (hL : LE.rows ρ L = some rows) (hn : rows.length = k')
    (hR : RepRows w' (Stab S0 base hp m w) sz rows vals) (hz : sz ≠ 0) (hown : w'.ownsRow base et sz (.slice ad' k' c') k' vals.flatten)
    (hwh : ∀ b, (Value.slice ad' k' c').ownBlock = some b → w.heap.size ≤ b ∨ (Value.slice ad k c).ownBlock = some b) : HR S0 base W0 (updA hp [(nb, some (.own L et sz)), (g, none)]) (updM m nb (.ow ad' k' c')) ρ w' := by
  have hob : (Value.slice ad k c).ownBlock = blkOf (some (.ow ad k c)) := by cases ad <;> rfl
  have hob' : (Value.slice ad' k' c').ownBlock = blkOf (some (.ow ad' k' c')) := by cases ad' <;> rfl
  have hle : Bm.le m (updM m nb (.ow ad' k' c')) := updM_le hnn
  refine hH.upd hle (Pre.refl ρ) ⟨hgr.os, hgr.tape, hgr.output, hgr.size, fun q hq => hgr.block q (Nat.lt_of_lt_of_le hq hH.le) fun e => ?_⟩ (Value.slice ad k c).ownBlock (fun b hb => ⟨g, c0, hg, hwr, by rw [hm, ← hob]; exact hb⟩)
    (fun b hb hne => hgr.block b hb (Ne.symm hne)) (fun g' => g' = nb) (fun g' d hc hne => ?_) (fun g' d b hg' hc _ hbl => ?_) (fun g' g'' d d' b h1 h2 _ _ _ _ _ _ => by rw [h1, h2]) (fun hS hW g' d hg' hc => ?_)
  · have := (hH.low g c0 q hg hwr (by rw [hm, ← hob]; exact e.symm)).1
    omega
  · simp only [updA, lk] at hc
    rw [if_neg (Ne.symm hne)] at hc
    by_cases h0 : g = g'
    · rw [if_pos h0] at hc; cases hc
    · rw [if_neg h0] at hc
      exact ⟨hc, fun hwr' b hb hX => h0 (hH.inj g g' c0 d b hg hc hwr hwr' (by rw [hm, ← hob]; exact hX) hb)⟩
  · subst hg'
    simp only [updM, if_pos] at hbl
    rw [← hob'] at hbl
    exact ⟨hwh b hbl, (hown.lt b hbl).2⟩
  · subst hg'
    simp only [updA, lk, if_pos, Option.some.injEq] at hc
    subst hc
    exact ⟨ad', k', c', rows, vals, by simp [updM], hL, hn, hR.mono hS (fun _ _ => rfl), hown, hz⟩
/-- What is told of a function that turns a list of the caller's own and hands it back. -/
def M2Ok (P : Program) (F : FnE) (fid pid et sz : Nat) (ex : List Nat) : Prop := (∀ args w, (callFunc fid args).run P w = .ok (.enter fid args) w) ∧ sz ≠ 0 ∧
  ∀ sz0 rows r, F pid [.lst sz0 rows] = some r → ∃ rows', r = [.lst sz rows'] ∧ ∀ (w : World) (S : Nat → Prop) (base : Nat) (v : Value) (vals : List (List Value)), (∀ b, S b → b < w.heap.size) → (∀ b, v.ownBlock = some b → ¬ S b) → RepRows w S sz rows vals → w.ownsRow base et sz v rows.length vals.flatten → base ≤ w.heap.size →
    Calls P fid (v :: ex.map fun f => .func (.func f) #[] #[]).toArray w fun
    | .returned u, w' => ∃ vals', RepRows w' S sz rows' vals' ∧ w'.ownsRow base et sz u rows'.length vals'.flatten ∧ w.grownBy w' v.ownBlock ∧ (∀ b, u.ownBlock = some b → w.heap.size ≤ b ∨ v.ownBlock = some b)
    | _, _ => False
structure O2E where
  pid : Nat
  et : Nat
  sz : Nat
  ex : List Nat
def St.m2d (s : St) (n : Nat) (d : Option Nat) (g et sz : Nat) : RR := St.set { s with hps := (s.nb, some (.own [.va s.nv] et sz)) :: (g, none) :: s.hps, nb := s.nb + 64, nv := s.nv + 1 } n d (.one (.ce (.hd s.nb)))
def o2Ext (n : Nat) (tab : List (Nat × O2E)) : Ext := fun s o => match o.op with
  | .call c => match c.callee, c.args.toList with
    | .value (.func f), x :: xs => match lk f tab, opc s.rd x with
      | some e, some (.hd g) => if exOk xs e.ex = true then (match s.hp g with
        | some (.own [.va k] et sz) => if sz = e.sz ∧ et = e.et then (match s.m2d n o.dst g e.et e.sz with
          | .ok s' => some (.ask e.pid [.li k] [.l e.et e.sz] s')
          | _ => none) else none
        | some (.own _ _ _) => some (.nm g)
        | _ => none) else none
      | _, _ => none
    | _, _ => none
  | _ => none
def O2Ok (P : Program) (F : FnE) (tab : List (Nat × O2E)) : Prop := ∀ f e, lk f tab = some e → M2Ok P F f e.pid e.et e.sz e.ex
theorem o2Ok_nil : O2Ok P F [] := fun f e h => by simp [lk] at h
theorem o2Ok_cons {f : Nat} {e : O2E} {l : List (Nat × O2E)} (h : M2Ok P F f e.pid e.et e.sz e.ex) (hl : O2Ok P F l) : O2Ok P F ((f, e) :: l) := fun g e' hg => by
  simp only [lk] at hg
  split at hg
  · rename_i he; subst he; cases hg; exact h
  · exact hl g e' hg
end
section
variable {P : Program} {F : FnE} {n : Nat}
theorem o2Ext_ok {tab : List (Nat × O2E)} (hT : O2Ok P F tab) : ExtOk P F n (o2Ext n tab) := by
  intro S0 base W0 Z s o f pcs ks s' hx m ρ a w ps r h hps hf hks K Q hK
  unfold o2Ext at hx
  split at hx
  case h_2 => cases hx
  rename_i c hop
  obtain ⟨dst, op, type, pos, after, guard⟩ := o
  simp only at hop
  subst hop
  split at hx
  case h_2 => cases hx
  rename_i fid x xs hcal hargs
  obtain ⟨callee, args, ats⟩ := c
  simp only at hcal hargs
  subst hcal
  split at hx
  case h_2 => cases hx
  rename_i e g htab hxx
  split at hx
  case isFalse => cases hx
  rename_i hex
  have ht := hT fid e htab
  have hav : args.map a.eval = (a.eval x :: e.ex.map fun f => .func (.func f) #[] #[]).toArray := map_toList2 (by rw [hargs, List.map_cons, exOk_ev hex])
  have hrun : execOp a.eval { dst := dst, op := .call { callee := .value (.func fid), args := args, argTypes := ats }, type := type, pos := pos, after := after, guard := guard } = callFunc fid (a.eval x :: e.ex.map fun f => .func (.func f) #[] #[]).toArray := by
    rw [execOp_call_go, hav]; simp
  have hxv := opc_ok (opOk_tm h.tr rfl x) hxx
  split at hx
  · rename_i k et sz hpg
    split at hx
    case isFalse => cases hx
    rename_i hsz
    obtain ⟨rfl, rfl⟩ := hsz
    split at hx
    case h_2 => cases hx
    rename_i s1 hs
    simp only [Option.some.injEq, XR.ask.injEq] at hx
    obtain ⟨rfl, rfl, rfl, rfl⟩ := hx
    obtain ⟨ad, nn, cc, rows, vals, hm, hr, hn, hrr, hown, hz0⟩ := h.hr.hps g _ hpg
    simp only [C.ev, hm, Option.some.injEq] at hxv
    obtain ⟨sz0, hrk⟩ : ∃ sz0, ρ[k]? = some (.lst sz0 rows) := by
      simp only [LE.rows] at hr
      split at hr
      · rename_i sz0 rows0 hk
        simp only [Option.map_some, List.append_nil, Option.some.injEq] at hr
        subst hr
        exact ⟨sz0, hk⟩
      · cases hr
    simp only [pds, PC.pd, hrk, Option.bind_some, Option.some.injEq] at hps
    subst hps
    obtain ⟨he, hz, hc⟩ := ht
    obtain ⟨rows', rfl, hc⟩ := hc sz0 rows r hf
    have hp := Pre.append ρ [.lst e.sz rows']
    have hob : (Value.slice ad nn cc).ownBlock = blkOf (some (.ow ad nn cc)) := by cases ad <;> rfl
    unfold Oper.wp
    rw [hrun, he _ w, ← hxv]
    subst hn
    refine Calls.mono (hc w (Stab S0 base s.hp m w) base _ vals (fun b hb => hb.2.1) (fun b hb hs => hs.2.2 g _ hpg rfl (by rw [hm, ← hob]; exact hb)) hrr hown h.hr.le) fun u w' hu => ?_
    cases u with
    | panicked _ => exact hu.elim
    | outgrown => exact hu.elim
    | returned u =>
      obtain ⟨vals', q1, q2, q3, q4⟩ := hu
      obtain ⟨ad', c', rfl⟩ := ownsRow_form q2
      unfold St.m2d at hs
      obtain ⟨hd, h1, h2, h3, h4, h5, h6, h7⟩ := set_spec hs
      have hat : (ρ ++ [PD.lst e.sz rows'])[s.nv]? = some (.lst e.sz rows') := by rw [← h.nv]; simp
      have hnn := h.nb s.nb (Nat.le_refl _)
      have hle : Bm.le m (updM m s.nb (.ow ad' rows'.length c')) := updM_le hnn
      have hnew := own_next (h.hr.weak hp fun _ _ h => h) (L := [.va s.nv]) hpg rfl hnn hm q3 (by simp [LE.rows, hat]) rfl q1 hz q2 q4
      refine hK _ _ w' ⟨?_, ?_, h3 ▸ h.kn.mono hp, h4 ▸ h.gm.mono hp, h5 ▸ h.cm.mono hp, fun q hq => ?_, ?_, fun b hb => hle 0 b (h.z b hb), by rw [h6]; have := h.nb1; show 1 ≤ s.nb + 64; omega⟩
      · rw [h1]; exact (h.tr.mono hle hp).put hd fun _ => by simp [SV.ev, T1.ev, C.ev, updM]
      · rw [show s1.hp = updA s.hp [(s.nb, some (.own [.va s.nv] e.et e.sz)), (g, none)] by unfold St.hp; rw [h2]; exact hp_append [(s.nb, some (.own [.va s.nv] e.et e.sz)), (g, none)] s.hps]; exact hnew
      · rw [h6] at hq; simp only at hq; simp only [updM]; rw [if_neg (by omega)]; exact h.nb q (by omega)
      · rw [h7]; simp [h.nv]
  · cases hx
  · cases hx
end
/-! ### 21. Reading a list of the call's own -/
def PGET : Nat := 1000004
def getApp : App := fun ps => match ps with
  | [.lst _ rows, .int i] => rows[i.toNat]?
  | _ => none
theorem xget_ap {α : Type} (sz : Nat) (r : Rw α) (l : List α) (i : Int) : getApp [.lst sz (l.map r.en), .int i] = (l[i.toNat]?).map r.en := by
  simp [getApp]
def getV (ks : List K4) (k0 g0 off : Nat) (d : TD) : Option SV := if isAggD d.desc = true then some (.one (.ag (((kcells k0 g0 ks).drop off).take d.sz))) else
  if d.sz = 1 then (match (kcells k0 g0 ks)[off]? with
    | some c => some (.one (.ce c))
    | none => none) else none
def getExt (env : Env) (n : Nat) : Ext := fun s o => match o.op with
  | .load t x => match opc s.rd x, env.tys.lookup t with
    | some (.ep g i sz off), some d => match s.hp g with
      | some (.own [.va k] et sz') => if sz' = sz ∧ off + d.sz ≤ sz ∧ sz ≤ 64 then (match env.kds.lookup et with
        | some ks => if ks.length = sz then (match getV ks s.nv s.nb off d with
          | some v => match St.set { s with hps := knews s.nv s.nb ks ++ s.hps, nb := s.nb + 64, nv := s.nv + ks.length } n o.dst v with
            | .ok s' => some (.ask PGET [.li k, .ex i] ks s')
            | _ => none
          | none => none) else none
        | none => none) else none
      | some (.own _ _ _) => some (.nm g)
      | _ => none
    | _, _ => none
  | _ => none
section
variable {P : Program} {env : Env} {F : FnE} {n : Nat}
theorem getExt_ok (hE : EnvOk P env) (hF : F PGET = getApp) : ExtOk P F n (getExt env n) := by
  intro S0 base W0 Z s o f pcs ks s' hx m ρ a w ps r h hps hf hks K Q hK
  unfold getExt at hx
  split at hx
  case h_2 => cases hx
  rename_i t x hop
  obtain ⟨dst, op, type, pos, after, guard⟩ := o
  simp only at hop
  subst hop
  split at hx
  case h_2 => cases hx
  rename_i g ix sz off d hxx htd
  split at hx
  case h_2 => cases hx
  case h_3 => cases hx
  rename_i k et sz' hpg
  split at hx
  case isFalse => cases hx
  rename_i hsz
  obtain ⟨rfl, hle, h64⟩ := hsz
  split at hx
  case h_2 => cases hx
  rename_i ks' hkd
  split at hx
  case isFalse => cases hx
  rename_i hkl
  split at hx
  case h_2 => cases hx
  rename_i v hv
  split at hx
  case h_2 => cases hx
  rename_i s1 hs
  simp only [Option.some.injEq, XR.ask.injEq] at hx
  obtain ⟨rfl, rfl, rfl, rfl⟩ := hx
  obtain ⟨b, o2, nn, cc, j, hb, hj, hct⟩ := ep_ev (opc_ok (opOk_tm h.tr rfl x) hxx)
  obtain ⟨hu, i, hi, hzv, hsi, hbs⟩ := hE.tys _ _ htd
  obtain ⟨ad, n', c', rows, vals, e1, e2, e3, e4, e5, e6⟩ := h.hr.hps g _ hpg
  rw [hb] at e1
  cases e1
  obtain ⟨sz0, hrk⟩ : ∃ sz0, ρ[k]? = some (.lst sz0 rows) := by
    simp only [LE.rows] at e2
    split at e2
    · rename_i sz0 rows0 hk
      simp only [Option.map_some, List.append_nil, Option.some.injEq] at e2
      subst e2
      exact ⟨sz0, hk⟩
    · cases e2
  simp only [pds, PC.pd, hrk, hj, Option.bind_some, Option.map_some, Option.some.injEq] at hps
  subst hps
  rw [hF] at hf
  have hrow : rows[j.toNat]? = some r := hf
  have hlt : j.toNat < vals.length := by rw [e4.length]; exact (List.getElem?_eq_some_iff.1 hrow).1
  obtain ⟨e11, e12⟩ := e4.get hrow (List.getElem?_eq_getElem hlt)
  have hp := Pre.append ρ r
  have hat : At (ρ ++ r) s.nv r := by rw [← h.nv]; exact at_end ρ _
  have hfr : ∀ g, s.nb ≤ g → g < s.nb + 64 → m g = none := fun g c1 _ => h.nb g c1
  obtain ⟨q1, q2, q3, q4⟩ := eff_news (h.hr.weak hp fun _ _ h => h) (by omega) hfr hks e12 hat
  have hvl : (vals[j.toNat]).length = sz' := (e4.row _ (List.getElem_mem hlt)).1
  have ho2 : o2 = 0 ∧ nn = rows.length := by
    refine ⟨?_, by omega⟩
    rcases e5.2 with ⟨g1, _⟩ | ⟨g', cap, cur, g1, _⟩
    · cases g1
    · cases g1; rfl
  obtain ⟨rfl, rfl⟩ := ho2
  have hcell : ∀ (p : Nat) v, ((vals[j.toNat].drop off).take d.sz)[p]? = some v → w.cell? ((⟨b, 0 + j.toNat * sz' + off, none⟩ : Addr).add p) = some v := by
    intro p v hv
    have hp : p < d.sz := by have := (List.getElem?_eq_some_iff.1 hv).1; simp at this; omega
    rw [List.getElem?_take_of_lt hp, List.getElem?_drop] at hv
    have h1 := flatten_get (fun v hv => (e4.row v hv).1) (List.getElem?_eq_getElem hlt) hv
    have h2 := (List.getElem?_eq_some_iff.1 h1).1
    rw [e5.1] at h2
    rw [add_zero', Nat.zero_add, Nat.add_assoc, e5.cellAt _ h2]
    exact h1
  have hll : ((vals[j.toNat].drop off).take d.sz).length = d.sz := by simp; omega
  obtain ⟨hd, h1, h2, h3, h4, h5, h6, h7⟩ := set_spec hs
  have fin : ∀ u : Value, v.ev (hdM m s.nb ks' vals[j.toNat]) (ρ ++ r) = some u → (execOp a.eval { dst := dst, op := .load t x, type := type, pos := pos, after := after, guard := guard }).run P w = .ok (.value u) w → Oper.wp P { dst := dst, op := .load t x, type := type, pos := pos, after := after, guard := guard } a w K Q := by
    intro u hu hrun
    unfold Oper.wp
    rw [hrun]
    refine hK (hdM m s.nb ks' vals[j.toNat]) _ w ⟨?_, ?_, h3 ▸ h.kn.mono hp, h4 ▸ h.gm.mono hp, h5 ▸ h.cm.mono hp, fun q hq => ?_, ?_, fun b hb => q1 0 b (h.z b hb), by rw [h6]; have := h.nb1; show 1 ≤ s.nb + 64; omega⟩
    · rw [h1]; exact (h.tr.mono q1 hp).put hd fun _ => hu
    · rw [show s1.hp = updA s.hp (knews s.nv s.nb ks') by unfold St.hp; rw [h2]; exact hp_append _ s.hps]; exact q3
    · rw [h6] at hq; simp only at hq; rw [q2 q (by omega)]; exact h.nb q (by omega)
    · rw [h7]; simp [h.nv, K4.oks_length hks]
  unfold getV at hv
  split at hv
  · rename_i hag
    cases hv
    have hL := run_loadCells_list (P := P) w ⟨b, 0 + j.toNat * sz' + off, none⟩ _ hcell
    rw [hll] at hL
    refine fin (.agg ((vals[j.toNat].drop off).take d.sz).toArray) (by simp only [SV.ev, T1.ev, evs_take _ (evs_drop _ q4), Option.map_some]) ?_
    simp [execOp, hct, Instr.loadAt, Instr.sureAddr, loadVar, Sem.run_bind, run_isAgg' hu, hag, run_sizeOf' hi, hsi, hL] <;> simp_all
  · rename_i hag
    split at hv
    · rename_i hd1
      split at hv
      · rename_i c0 hcc
        cases hv
        obtain ⟨u, hu2, hcv⟩ := evs_get q4 hcc
        refine fin u hcv ?_
        have hce : w.cell? ⟨b, 0 + j.toNat * sz' + off, none⟩ = some u := by
          have := hcell 0 u (by rw [List.getElem?_take_of_lt (by omega), List.getElem?_drop]; simpa using hu2)
          simpa [Addr.add] using this
        have hag' : isAggD d.desc = false := by simpa using hag
        simp [execOp, hct, Instr.loadAt, Instr.sureAddr, loadVar, Sem.run_bind, run_isAgg' hu, hag', hce] <;> simp_all
      · cases hv
    · cases hv
end
/-! ### 22. Writing into a list of the call's own -/
def pset (off sz : Nat) : Nat := 2000000 + off * 1000 + sz
def setApp (off sz : Nat) : App := fun ps => match ps with
  | .lst _ rows :: .int i :: qs => (rows[i.toNat]?).bind fun row => some [.lst sz (rows.set i.toNat (row.take off ++ qs ++ row.drop (off + qs.length)))]
  | _ => none
theorem take_splice (l us : List Value) (p N : Nat) (h : p + us.length ≤ N) (hN : N ≤ l.length) : (l.take p ++ us ++ l.drop (p + us.length)).take N = (l.take N).take p ++ us ++ (l.take N).drop (p + us.length) := by
  have h1 : (l.take p ++ us).length = p + us.length := by simp; omega
  rw [show N = (l.take p ++ us).length + (N - (p + us.length)) by omega, List.take_length_add_append, h1, List.take_take, Nat.min_eq_left (by omega), List.drop_take]
  congr 2
  omega
theorem splice_len (l us : List Value) (p : Nat) (h : p + us.length ≤ l.length) : (l.take p ++ us ++ l.drop (p + us.length)).length = l.length := by
  simp only [List.length_append, List.length_take, List.length_drop]
  omega
theorem flatten_set {sz : Nat} (us : List Value) (off : Nat) : ∀ (vals : List (List Value)) (j : Nat) (hj : j < vals.length), (∀ v ∈ vals, v.length = sz) → off + us.length ≤ sz →
    (vals.set j ((vals[j]'hj).take off ++ us ++ (vals[j]'hj).drop (off + us.length))).flatten = vals.flatten.take (j * sz + off) ++ us ++ vals.flatten.drop (j * sz + off + us.length)
  | v :: vs, 0, hj, hl, ho => by
    have hv := hl v (by simp)
    simp only [List.set_cons_zero, List.flatten_cons, List.getElem_cons_zero, Nat.zero_mul, Nat.zero_add]
    rw [List.take_append_of_le_length (by omega), List.drop_append_of_le_length (by omega)]
    simp
  | v :: vs, j + 1, hj, hl, ho => by
    have hv := hl v (by simp)
    have hj' : j < vs.length := by simpa using hj
    have ih := flatten_set us off vs j hj' (fun v h => hl v (by simp [h])) ho
    have a1 : ∀ m, (v ++ vs.flatten).take (v.length + m) = v ++ vs.flatten.take m := fun m => List.take_length_add_append m
    have a2 : ∀ m, (v ++ vs.flatten).drop (v.length + m) = vs.flatten.drop m := fun m => List.drop_length_add_append m
    simp only [List.set_cons_succ, List.flatten_cons, List.getElem_cons_succ, ih]
    rw [show (j + 1) * sz + off = v.length + (j * sz + off) by rw [Nat.add_mul, hv]; omega, a1,
      show v.length + (j * sz + off) + us.length = v.length + (j * sz + off + us.length) by omega, a2]
    simp
theorem RepRow.take {w : World} {S : Nat → Prop} : ∀ {ps : List PD} {vs : List Value} (k : Nat), RepRow w S ps vs → RepRow w S (ps.take k) (vs.take k)
  | [], [], k, _ => by simp [RepRow]
  | p :: ps, v :: vs, 0, h => by simp [RepRow]
  | p :: ps, v :: vs, k + 1, h => ⟨h.1, RepRow.take k h.2⟩
  | [], _ :: _, _, h => h.elim
  | _ :: _, [], _, h => h.elim
theorem RepRow.drop {w : World} {S : Nat → Prop} : ∀ {ps : List PD} {vs : List Value} (k : Nat), RepRow w S ps vs → RepRow w S (ps.drop k) (vs.drop k)
  | [], [], k, _ => by simp [RepRow]
  | p :: ps, v :: vs, 0, h => h
  | p :: ps, v :: vs, k + 1, h => RepRow.drop k h.2
  | [], _ :: _, _, h => h.elim
  | _ :: _, [], _, h => h.elim
theorem RepRows.set {w : World} {S : Nat → Prop} {sz : Nat} {p : List PD} {v : List Value} (hp : p.length = sz) (hv : RepRow w S p v) : ∀ {ps : List (List PD)} {vs : List (List Value)} (j : Nat), RepRows w S sz ps vs → RepRows w S sz (ps.set j p) (vs.set j v)
  | [], [], j, _ => by simp [RepRows]
  | q :: ps, u :: vs, 0, h => ⟨⟨hp, hv⟩, h.2⟩
  | q :: ps, u :: vs, j + 1, h => ⟨h.1, RepRows.set hp hv j h.2⟩
  | [], _ :: _, _, h => h.elim
  | _ :: _, [], _, h => h.elim
def setExt (env : Env) (n : Nat) (tbl : List (Nat × Nat)) : Ext := fun s o => match o.op with
  | .store t x y => match opc s.rd x, opl s.rd y, env.tys.lookup t with
    | some (.ep g i sz off), some vs, some d => match s.hp g with
      | some (.own [.va k] et sz') => if sz' = sz ∧ off + d.sz ≤ sz ∧ vs.length = d.sz ∧ (off, sz) ∈ tbl then (match env.kds.lookup et with
        | some ks => match pcsOf s.hp ((ks.drop off).take d.sz) vs with
          | .ok l => match s.mud n o.dst g et sz with
            | .ok s' => some (.ask (pset off sz) ([.li k, .ex i] ++ l) [.l et sz] s')
            | _ => none
          | .fix g => some (.fix g)
          | .bad => none
        | none => none) else none
      | some (.own _ _ _) => some (.nm g)
      | _ => none
    | _, _, _ => none
  | _ => none
section
variable {P : Program} {env : Env} {F : FnE} {n : Nat}
theorem setExt_ok {tbl : List (Nat × Nat)} (hE : EnvOk P env) (hF : ∀ p ∈ tbl, F (pset p.1 p.2) = setApp p.1 p.2) : ExtOk P F n (setExt env n tbl) := by
  intro S0 base W0 Z s o f pcs ks s' hx m ρ a w ps r h hps hf hks K Q hK
  unfold setExt at hx
  split at hx
  case h_2 => cases hx
  rename_i t x y hop
  obtain ⟨dst, op, type, pos, after, guard⟩ := o
  simp only at hop
  subst hop
  split at hx
  case h_2 => cases hx
  rename_i g ix sz off vs d hxx hyy htd
  split at hx
  case h_2 => cases hx
  case h_3 => cases hx
  rename_i k et sz' hpg
  split at hx
  case isFalse => cases hx
  rename_i hsz
  obtain ⟨rfl, hle, hvd, hmem⟩ := hsz
  split at hx
  case h_2 => cases hx
  rename_i ks' hkd
  split at hx
  case h_2 => cases hx
  case h_3 => cases hx
  rename_i l hl
  split at hx
  case h_2 => cases hx
  rename_i s1 hs
  simp only [Option.some.injEq, XR.ask.injEq] at hx
  obtain ⟨rfl, rfl, rfl, rfl⟩ := hx
  obtain ⟨b, o2, nn, cc, j, hb, hj, hct⟩ := ep_ev (opc_ok (opOk_tm h.tr rfl x) hxx)
  have hyv := opl_ok (opOk_tm h.tr rfl y) hyy
  obtain ⟨hu, i, hi, hzv, hsi, hbs⟩ := hE.tys _ _ htd
  obtain ⟨ad, n', c', rows, vals, e1, e2, e3, e4, e5, e6⟩ := h.hr.hps g _ hpg
  rw [hb] at e1
  cases e1
  obtain ⟨sz0, hrk⟩ : ∃ sz0, ρ[k]? = some (.lst sz0 rows) := by
    simp only [LE.rows] at e2
    split at e2
    · rename_i sz0 rows0 hk
      simp only [Option.map_some, List.append_nil, Option.some.injEq] at e2
      subst e2
      exact ⟨sz0, hk⟩
    · cases e2
  obtain ⟨qs, g1, g2, g3⟩ := pcsOf_ok h.hr.hps hl hyv
  simp only [List.cons_append, List.nil_append, pds, PC.pd, hrk, hj, g1, Option.bind_some, Option.map_some, Option.some.injEq] at hps
  subst hps
  have hvl := evs_length hyv
  have hql := g3.length
  have hul : (a.eval y).cells.toList.length = d.sz := by omega
  rw [hF (off, sz') hmem] at hf
  simp only [setApp, Option.bind_eq_some_iff, Option.some.injEq] at hf
  obtain ⟨row, hrow, rfl⟩ := hf
  have hlt : j.toNat < vals.length := by rw [e4.length]; exact (List.getElem?_eq_some_iff.1 hrow).1
  obtain ⟨e11, e12⟩ := e4.get hrow (List.getElem?_eq_getElem hlt)
  have hp := Pre.append ρ [PD.lst sz' (rows.set j.toNat (row.take off ++ qs ++ row.drop (off + qs.length)))]
  have hvlen : (vals[j.toNat]).length = sz' := (e4.row _ (List.getElem_mem hlt)).1
  have hrw : RepRow w (Stab S0 base s.hp m w) (row.take off ++ qs ++ row.drop (off + qs.length)) ((vals[j.toNat]).take off ++ (a.eval y).cells.toList ++ (vals[j.toNat]).drop (off + (a.eval y).cells.toList.length)) := by
    rw [← hql]
    exact ((e12.take off).append g3).append (e12.drop _)
  have hrl : (row.take off ++ qs ++ row.drop (off + qs.length)).length = sz' := by
    simp only [List.length_append, List.length_take, List.length_drop]
    omega
  have hset := e4.set hrl hrw j.toNat
  have hfl := flatten_set (a.eval y).cells.toList off vals j.toNat hlt (fun v hv => (e4.row v hv).1) (by omega)
  have hmul : j.toNat * sz' + off + d.sz ≤ rows.length * sz' := by
    have h1 : j.toNat < rows.length := (List.getElem?_eq_some_iff.1 hrow).1
    have h2 : (j.toNat + 1) * sz' ≤ rows.length * sz' := Nat.mul_le_mul_right _ h1
    have h3 : (j.toNat + 1) * sz' = j.toNat * sz' + sz' := by rw [Nat.add_mul, Nat.one_mul]
    omega
  subst e3
  obtain ⟨hfn, hown⟩ := e5
  rcases hown with ⟨c1, _⟩ | ⟨b', cap, cur, c1, c2, c3, c4, c5, c6, c7⟩
  · cases c1
  cases c1
  have hcs : rows.length * sz' ≤ cc * sz' := Nat.mul_le_mul_right _ (by omega)
  have hsz' : cur.toList.length = cc * sz' := by simpa using c6
  have hst := run_store_at (P := P) (v := a.eval y) (off := 0 + j.toNat * sz' + off) hi c3 (by simp at hul; omega) (by simp at hul; omega) (evs_one hyv)
  rw [Nat.zero_add] at hst
  obtain ⟨hd, h1, h2, h3, h4, h5, h6, h7⟩ := set_spec hs
  have hat : (ρ ++ [PD.lst sz' (rows.set j.toNat (row.take off ++ qs ++ row.drop (off + qs.length)))])[s.nv]? = some (.lst sz' (rows.set j.toNat (row.take off ++ qs ++ row.drop (off + qs.length)))) := by rw [← h.nv]; simp
  have hfl2 : (vals.set j.toNat ((vals[j.toNat]).take off ++ (a.eval y).cells.toList ++ (vals[j.toNat]).drop (off + (a.eval y).cells.toList.length))).flatten.length = rows.length * sz' := by
    rw [hfl, splice_len _ _ _ (by omega)]; exact hfn
  have hnew := own_same (w' := w.setRow b (cur.toList.take (j.toNat * sz' + off) ++ (a.eval y).cells.toList ++ cur.toList.drop (j.toNat * sz' + off + (a.eval y).cells.toList.length)).toArray) (h.hr.weak hp fun _ _ h => h) (L := [.va s.nv]) hpg rfl hb
    ⟨rfl, rfl, rfl, by simp [World.setRow], fun k _ hk => setRow_other w b k _ (fun e => hk (by rw [e]; rfl))⟩ (by simp only [LE.rows, hat, Option.map_some, List.append_nil]) (rows := rows.set j.toNat (row.take off ++ qs ++ row.drop (off + qs.length))) (k := rows.length) (by simp)
    (hset.mono (fun _ h => h) (fun q hq => setRow_other w b q _ (fun e => hq.2.2 g _ hpg rfl (by rw [hb]; simp [blkOf, e])))) e6
    (base := base) (et := et) (vals := vals.set j.toNat ((vals[j.toNat]).take off ++ (a.eval y).cells.toList ++ (vals[j.toNat]).drop (off + (a.eval y).cells.toList.length))) ⟨hfl2, .inr ⟨b, cc, _, rfl, c2, setRow_heap w b cur _ _ _ c3, c4, c5, by rw [List.size_toArray, splice_len _ _ _ (by omega)]; exact hsz', by rw [hfl, ← c7]; exact take_splice _ _ _ _ (by omega) (by omega)⟩⟩
  unfold Oper.wp
  rw [show (execOp a.eval { dst := dst, op := .store t x y, type := type, pos := pos, after := after, guard := guard }).run P w = .ok .skip (w.setRow b (cur.toList.take (j.toNat * sz' + off) ++ (a.eval y).cells.toList ++ cur.toList.drop (j.toNat * sz' + off + (a.eval y).cells.toList.length)).toArray) by
    simp only [execOp, hct, Nat.zero_add, Sem.run_bind, hst, Result.andThen_ok, Sem.run_pure]]
  refine hK m _ _ ⟨?_, ?_, h3 ▸ h.kn.mono hp, h4 ▸ h.gm.mono hp, h5 ▸ h.cm.mono hp, fun q hq => ?_, ?_, h.z, by rw [h6]; exact h.nb1⟩
  · rw [h1]; exact (h.tr.mono (Bm.le_refl _) hp).put hd fun _ => rfl
  · rw [show s1.hp = updA s.hp [(g, some (.own [.va s.nv] et sz'))] by unfold St.hp; rw [h2]; exact hp_append [(g, some (.own [.va s.nv] et sz'))] s.hps]; exact hnew
  · rw [h6] at hq; exact h.nb q hq
  · rw [h7]; simp [h.nv]
end
def xset {α : Type} (l : List α) (i : Int) (u : α → α) : Option (List α) := (l[i.toNat]?).map fun x => l.set i.toNat (u x)
theorem xset_ap {α : Type} (off et sz : Nat) (r : Rw α) (h : r.ks.length = sz) (l : List α) (i : Int) (qs : List PD) (u : α → α) (hu : ∀ x, (r.en x).take off ++ qs ++ (r.en x).drop (off + qs.length) = r.en (u x)) :
    setApp off sz (.lst sz (l.map r.en) :: .int i :: qs) = (xset l i u).map (rwL et sz r h).en := by
  unfold setApp xset
  simp only [List.getElem?_map]
  cases l[i.toNat]? with
  | none => rfl
  | some x => simp only [Option.map_some, Option.bind_some, hu, ← List.map_set]; rfl
theorem mem_two {p : Nat × Nat → Prop} {x : Nat × Nat} {l : List (Nat × Nat)} (h : p x) (hl : ∀ y ∈ l, p y) : ∀ y ∈ x :: l, p y := by
  intro y hy
  rcases List.mem_cons.1 hy with rfl | hy
  · exact h
  · exact hl y hy
theorem mem_zero {p : Nat × Nat → Prop} : ∀ y ∈ ([] : List (Nat × Nat)), p y := by
  intro y hy; cases hy
/-! ### 23. Functions walked by hand -/
section
variable {P : Program}
/-- A function whose contract is shown by hand. -/
def HandOk (P : Program) (f : FuncId) (sg : List S1) (sh : Sh) (g : App) : Prop := (∀ args w, (callFunc f args).run P w = .ok (.enter f args) w) ∧
  ∀ (ps r : List PD), g ps = some r → ∀ (args : List Value) (w : World) (S : Nat → Prop), (∀ b, S b → b < w.heap.size) → RepArgs w S sg ps args → Calls P f args.toArray w fun
    | .returned u, w' => RepSh w' (fun b => S b ∨ (w.heap.size ≤ b ∧ b < w'.heap.size)) sh r u ∧ Below w.heap.size w w'
    | _, _ => False
theorem good_hand {fs : List (Nat × List S1 × Sh)} {f : FuncId} {sg : List S1} {sh : Sh} {l : List (Nat × App)} (hl : Good P fs (mkF l)) {g : App} (hlk : fs.lookup f = some (sg, sh)) (hh : HandOk P f sg sh g) (hlt : f < 3000000 := by decide) : Good P fs (mkF ((f, g) :: l)) := by
  refine ⟨subF_cons hl.1 hlt g, ?_⟩
  intro k sg' sh' ps r hlk' hk hF
  by_cases he : f = k
  · subst he
    rw [hlk] at hk
    cases hk
    simp only [mkF, lk, if_pos, Option.bind_some] at hF
    exact ⟨hh.1, hh.2 ps r hF⟩
  · refine hl.2 k sg' sh' ps r hlk' hk ?_
    simpa [mkF, lk, he] using hF
/-- A list that a call has made, told as one that is read. -/
theorem rep_of_own {w : World} {S : Nat → Prop} {B et sz k : Nat} {v : Value} {rows : List (List PD)} {vals : List (List Value)} (hR : RepRows w S sz rows vals) (hown : w.ownsRow B et sz v k vals.flatten) (hk : rows.length = k) (hS : ∀ b, B ≤ b → b < w.heap.size → S b) : Rep w S (.lst sz rows) v := by
  subst hk
  have hlen := flatten_length (sz := sz) fun v hv => (hR.row v hv).1
  rw [hR.length] at hlen
  rcases hown.2 with ⟨q1, q2⟩ | ⟨g, cap, cur, q1, q2, q3, q4, q5, q6, q7⟩
  · subst q1
    have h0 : rows = [] := List.eq_nil_of_length_eq_zero q2
    subst h0
    exact .lst sz [] none 0 (fun _ _ => undef) (by simp) (by simp) (by simp) (by simp) (by simp) (by simp) (by simp)
  · subst q1
    refine Rep.of_list q4 (by omega) (by simp) (by intro _ ad h; cases h; rfl) hR fun hne => ⟨g, 0, rfl, hS g q2 (Array.getElem?_eq_some_iff.1 q3).1, fun i j v x hi hj => ?_⟩
    have h1 := flatten_get (fun v hv => (hR.row v hv).1) hi hj
    have h2 := (List.getElem?_eq_some_iff.1 h1).1
    have := hown.cells rfl (i * sz + j) x h1
    rw [add_zero'] at this
    rw [Nat.zero_add] at this ⊢
    exact this
end
/-- A list of the call's own that is read is named: it stays its own (a loop may read it round by round). -/
def nmExt : Ext := fun s o => match o.op with
  | .load _ x => match opc s.rd x with
    | some (.ep g _ _ _) => match s.hp g with
      | some (.own [.va _] _ _) => none
      | some (.own _ _ _) => some (.nm g)
      | _ => none
    | _ => none
  | _ => none
theorem nmExt_ok {P : Program} {F : FnE} {n : Nat} : ExtOk P F n nmExt := by
  intro S0 base W0 Z s o f pcs ks s' h
  exfalso
  unfold nmExt at h
  split at h
  · split at h
    · split at h <;> cases h
    · cases h
  · cases h
/-- A list that is laid into these slots is from then on read alone. -/
def frzExt (n : Nat) (tb : List (Nat × Nat)) : Ext := fun s o => match o.op, o.dst with
  | .assign x, some d => if (tb.any fun p => decide (p.1 = n ∧ p.2 = d)) = true then (match opc s.rd x with
    | some (.hd g) => match s.hp g with
      | some (.own _ _ _) => some (.fix g)
      | _ => none
    | _ => none) else none
  | _, _ => none
theorem frzExt_ok {P : Program} {F : FnE} {n : Nat} {tb : List (Nat × Nat)} : ExtOk P F n (frzExt n tb) := by
  intro S0 base W0 Z s o f pcs ks s' h
  exfalso
  unfold frzExt at h
  split at h
  · split at h
    · split at h
      · split at h <;> cases h
      · cases h
    · cases h
  · cases h

/-- A list that is built where the order is drawn, in Lean's own words. -/
def xmk {α : Type} (l : List α) : Option (List α) := some l
theorem xmk_ap {α : Type} (et sz : Nat) (r : Rw α) (h : r.ks.length = sz) (hz : sz ≠ 0) (l : List α) {ps : List PD} (hp : ps = (l.map r.en).flatten) : mkApp sz ps = (xmk l).map (rwL et sz r h).en := by
  have hw : ∀ x ∈ l.map r.en, x.length = sz := fun x hx => by
    obtain ⟨a, _, rfl⟩ := List.mem_map.1 hx
    rw [K4.oks_length (r.hok a), h]
  subst hp
  unfold mkApp xmk
  rw [if_neg hz, flat_lengthP hw, Nat.mul_div_cancel _ (Nat.pos_of_ne_zero hz), unfl_flatten hw]
  rfl
end Go.Proofs.Ytpicoedbkeljoaa.Sy
