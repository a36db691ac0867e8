/- Copies of lists of structs: AN AGENT'S OWN TEXT (wip/hand/clone.txt). -/
import Derived.Test.YtpicoedbkeljoaaSyB
import Derived.Test.YtpicoedbkeljoaaProg
import Derived.KernelRfl
import Derived.WalkKit
import Derived.OwnWalk
import Derived.Lib.OwnBridge
import Derived.Lib.SliceRun
import Derived.Maps.AppendAt
import Derived.Shelf.Slices.In.Clone
set_option linter.unusedVariables false
set_option linter.unusedSimpArgs false
set_option maxRecDepth 100000
namespace Go.Proofs.Ytpicoedbkeljoaa.Hc
open Go Go.RowKit Go.Shelf Go.Sort Go.Proofs Go.Proofs.Ytpicoedbkeljoaa.Sy
theorem info37 : (Try.prog.info? 37).map (fun i => (i.zero, i.size, i.bytes)) = some (some (.agg #[.int .i64 0, .int .i64 0, .int .i64 0, .int .i64 0]), 4, 32) := by kernel_rfl
set_option maxHeartbeats 1000000 in
theorem clone56_run (ad : Option Addr) (n c : Nat) (w : World) (news : List Value) (hl : news.length = n * 4) (hn : ad = none → n = 0) (hnews : ∀ a, ad = some a → ∀ j u, news[j]? = some u → w.cell? (a.add j) = some u) (h1 : ∀ u ∈ news, u.oneCell' = true) (hm : n ≤ maxLen) (hbig : n * 32 ≤ 140737488355328) :
    Calls Try.prog 56 #[.slice ad n c] w fun e w' => ∃ v', e = .returned v' ∧ w'.ownsRow w.heap.size 37 4 v' n news ∧ Below w.heap.size w w' := by
  have q22 : ∀ (w : World) (a : Option Addr) (n c n' c' : Nat), (binOp .eql 38 (.slice a n c) (.slice none n' c')).run Try.prog w = .ok (.bool a.isNone) w := fun w a n c n' c' => Lib.run_eql_slice_nil w _ _ a n c n' c' Try.underlying38
  obtain ⟨i0, hi, hz0, hz1, hz2⟩ := info_parts info37
  cases ad with
  | none =>
    have hn0 := hn rfl
    subst hn0
    go_enter Try.func56, Try.ntmps56
    go_wp2
    go_ret
    have : news = [] := List.eq_nil_of_length_eq_zero (by simpa using hl)
    subst this
    exact ⟨_, rfl, World.ownsRow_nil _ _ _ _, Below.refl _ _⟩
  | some a =>
    have A : Aside (∀ j u, news[j]? = some u → w.cell? (a.add j) = some u) := hnews a rfl
    clear hnews hn
    go_enter Try.func56, Try.ntmps56
    go_wp2_with (at_builtin; refine wpList_append_own _ rfl _ _ 38 rfl w.heap.size 37 i0 (.agg #[.int .i64 0, .int .i64 0, .int .i64 0, .int .i64 0]) 4 32 Try.underlying38 hi hz0 hz1 hz2 rfl (by decide) _ _ _ rfl (World.ownsRow_made w #[] 0 (Nat.le_refl _) (Nat.zero_le _) rfl) a n c news rfl hl ?qc2 h1 (by omega) (by omega) ?qc6 ?_)
    case qc2 =>
      intro j u hj
      exact Lib.cell?_alloc_some _ (A.out j u hj)
    case qc6 => simp
    intro v' w1 hown hgrow hnil
    go_wp2
    go_ret
    refine ⟨v', rfl, by simpa using hown, ?_⟩
    exact ((Below.refl _ w).alloc (Nat.le_refl _) _).grown hgrow (by simp) (by intro k hk; simp [Value.ownBlock] at hk; omega)
theorem clone56_ok {F : FnE} (hF : F (pclo 37) = cloApp 32 4) : MkOk Try.prog F 56 (pclo 37) 37 4 [] 4 := by
  refine ⟨enters_of Try.func56 (by kernel_rfl) rfl, by decide, fun rows r h => ?_⟩
  rw [hF] at h
  obtain ⟨rfl, hbig⟩ := cloApp_some h
  refine ⟨rows, rfl, fun w S v hS hrep => ?_⟩
  obtain ⟨ad, n, c, rfl⟩ : ∃ ad n c, v = .slice ad n c := by cases hrep; exact ⟨_, _, _, rfl⟩
  obtain ⟨e1, e2, e3, vals, e5, e6, e7⟩ := rep_flat (by decide) hrep
  subst e1
  refine Calls.mono (clone56_run ad rows.length c w vals.flatten e6 (fun h => by rw [(e3 h)]; rfl) (fun a ha j u hj => e7 a ha j u hj) (fun u hu => by
    obtain ⟨v, hv, hu⟩ := List.mem_flatten.1 hu
    exact (e5.row v hv).2 u hu) e2 hbig) fun e w' he => ?_
  obtain ⟨v', rfl, hown, hb⟩ := he
  exact ⟨vals, e5.mono (fun _ h => h) (fun b hb' => hb.block b (hS b hb')), hown, hb⟩

end Go.Proofs.Ytpicoedbkeljoaa.Hc
