/- The plain law TurnTexts, over the printed functions: no Go, no memory. -/
import Derived.Test.YtnahjeeochfljaaPTurnTextsx1
import Derived.Test.YtnahjeeochfljaaAid
namespace Go.Proofs.Ytnahjeeochfljaa.PureTurnTexts
open Go.RowKit Go.Proofs.Ytnahjeeochfljaa.PTurnTexts Go.Proofs.YtnahjeeochfljaaW.PrintWords Go.Proofs.YtnahjeeochfljaaW.PrintLast Go.Proofs.YtnahjeeochfljaaW.PrintMore Go.Proofs.Ytnahjeeochfljaa.Aid
set_option linter.unusedVariables false
set_option linter.unusedSimpArgs false
def nms : List ByteArray := [(⟨#[114, 48]⟩ : ByteArray), (⟨#[114, 49]⟩ : ByteArray), (⟨#[114, 50]⟩ : ByteArray), (⟨#[114, 51]⟩ : ByteArray), (⟨#[109, 48]⟩ : ByteArray), (⟨#[109, 49]⟩ : ByteArray), (⟨#[109, 50]⟩ : ByteArray), (⟨#[109, 51]⟩ : ByteArray)]
/-- Where a text of the eight stands first; -1: nowhere. -/
def ix (s : List UInt8) : Int :=
  if s = [114, 48] then 0 else if s = [114, 49] then 1 else if s = [114, 50] then 2 else if s = [114, 51] then 3
  else if s = [109, 48] then 4 else if s = [109, 49] then 5 else if s = [109, 50] then 6 else if s = [109, 51] then 7 else -1
theorem wl4 : wrap64 4 = 4 := wrap_id (by omega) (by omega)
theorem wl5 : wrap64 5 = 5 := wrap_id (by omega) (by omega)
theorem wl6 : wrap64 6 = 6 := wrap_id (by omega) (by omega)
theorem wl7 : wrap64 7 = 7 := wrap_id (by omega) (by omega)
theorem wl8 : wrap64 8 = 8 := wrap_id (by omega) (by omega)
theorem nm0 : (rdOf ByteArray.empty nms 0).toList = [114, 48] := by decide +kernel
theorem nm1 : (rdOf ByteArray.empty nms 1).toList = [114, 49] := by decide +kernel
theorem nm2 : (rdOf ByteArray.empty nms 2).toList = [114, 50] := by decide +kernel
theorem nm3 : (rdOf ByteArray.empty nms 3).toList = [114, 51] := by decide +kernel
theorem nm4 : (rdOf ByteArray.empty nms 4).toList = [109, 48] := by decide +kernel
theorem nm5 : (rdOf ByteArray.empty nms 5).toList = [109, 49] := by decide +kernel
theorem nm6 : (rdOf ByteArray.empty nms 6).toList = [109, 50] := by decide +kernel
theorem nm7 : (rdOf ByteArray.empty nms 7).toList = [109, 51] := by decide +kernel
theorem nms_len : nms.length = 8 := rfl
theorem Index_eq (m : Nat) (s : ByteArray) : slices_Index_string_string.f (m + 20) nms s = some (ix s.toList) := by
  simp only [slices_Index_string_string.f, nms_len]
  simp only [slices_Index_string_string.l0, nms_len, nm0, nm1, nm2, nm3, nm4, nm5, nm6, nm7, Int.zero_add, Int.reduceAdd, wl1, wl2, wl3, wl4, wl5, wl6, wl7, wl8, Int.reduceLE, Int.reduceLT, if_true, if_false, Int.cast_ofNat_Int, ix]
  (repeat' split) <;> rfl
theorem turn_Find_eq (m : Nat) (s : ByteArray) : turn_Find.f (m + 20) s = some (mx (ix s.toList) 0, decide (ix s.toList ≥ 0)) := by
  rw [show turn_Find.f (m + 20) s = (slices_Index_string_string.f (m + 20) nms s).bind fun t108 => some (mx t108 0, decide (t108 ≥ 0)) from rfl, Index_eq]; rfl
theorem turn_Text_eq (a : Int) : turn_Text.f a = some (rdOf ByteArray.empty nms (a % 8)) := by
  rw [show turn_Text.f a = (if 0 ≤ (Go.bits .and .i64 a 7) then (if (Go.bits .and .i64 a 7) < ((nms.length : Nat) : Int) then (some (rdOf ByteArray.empty nms (Go.bits .and .i64 a 7))) else none) else none) from rfl, and7, nms_len]
  rw [if_pos (by omega), if_pos (by omega)]
theorem ix_text (s : List UInt8) (h : ix s ≥ 0) : (rdOf ByteArray.empty nms (ix s % 8)).toList = s := by
  by_cases h0 : s = [114, 48]
  · subst h0; decide +kernel
  by_cases h1 : s = [114, 49]
  · subst h1; decide +kernel
  by_cases h2 : s = [114, 50]
  · subst h2; decide +kernel
  by_cases h3 : s = [114, 51]
  · subst h3; decide +kernel
  by_cases h4 : s = [109, 48]
  · subst h4; decide +kernel
  by_cases h5 : s = [109, 49]
  · subst h5; decide +kernel
  by_cases h6 : s = [109, 50]
  · subst h6; decide +kernel
  by_cases h7 : s = [109, 51]
  · subst h7; decide +kernel
  simp [ix, h0, h1, h2, h3, h4, h5, h6, h7] at h
theorem ix_le (s : List UInt8) : -1 ≤ ix s ∧ ix s ≤ 7 := by
  unfold ix
  repeat' split
  all_goals omega
theorem u8_eq (x : UInt8) (n : Nat) (hn : n < 256) : (x = UInt8.ofNat n) ↔ x.toNat = n := by
  constructor
  · rintro rfl; simp; omega
  · intro h; apply UInt8.toNat_inj.mp; simp; omega
theorem ix_two (x y : UInt8) : ix [x, y] ≥ 0 ↔ ((x.toNat : Int) = 114 ∨ (x.toNat : Int) = 109) ∧ (y.toNat : Int) ≥ 48 ∧ (y.toNat : Int) ≤ 51 := by
  have a1 := u8_eq x 114 (by decide)
  have a2 := u8_eq x 109 (by decide)
  have b1 := u8_eq y 48 (by decide)
  have b2 := u8_eq y 49 (by decide)
  have b3 := u8_eq y 50 (by decide)
  have b4 := u8_eq y 51 (by decide)
  simp only [show UInt8.ofNat 114 = 114 from rfl, show UInt8.ofNat 109 = 109 from rfl, show UInt8.ofNat 48 = 48 from rfl, show UInt8.ofNat 49 = 49 from rfl, show UInt8.ofNat 50 = 50 from rfl, show UInt8.ofNat 51 = 51 from rfl] at a1 a2 b1 b2 b3 b4
  simp only [ix, List.cons.injEq, and_true, a1, a2, b1, b2, b3, b4]
  generalize x.toNat = p
  generalize y.toNat = q
  repeat' split
  all_goals omega
theorem ix_other (s : List UInt8) (h : s.length ≠ 2) : ix s = -1 := by
  have k : ∀ a b : UInt8, s ≠ [a, b] := by rintro a b rfl; exact h rfl
  simp [ix, k]
theorem alive40 : gatherumlaw05_alive.f 40 = some true := by decide +kernel
theorem text_size (a : Int) : ((rdOf ByteArray.empty nms (a % 8)).size : Int) = 2 := by
  obtain ⟨x, hx⟩ := fin8 a
  rw [hx]
  have key : ∀ x : Fin 8, ((rdOf ByteArray.empty nms (x.1 : Int)).size : Int) = 2 := by decide +kernel
  exact key x
theorem ix_of_text (a : Int) : ix (rdOf ByteArray.empty nms (a % 8)).toList = a % 8 := by
  obtain ⟨x, hx⟩ := fin8 a
  rw [hx]
  have key : ∀ x : Fin 8, ix (rdOf ByteArray.empty nms (x.1 : Int)).toList = (x.1 : Int) := by decide +kernel
  exact key x
theorem last_part (m : Nat) (t : Int) (s : ByteArray) (one : Bool) (h : decide (ix s.toList ≥ 0) = one) :
    gatherumlaw05_TurnTexts.j0 (m + 30) t s (mx (t % 8) 0) (decide (t % 8 ≥ 0)) (mx (ix s.toList) 0) (decide (ix s.toList ≥ 0)) one = some true := by
  have h0 : mx (t % 8) 0 = t % 8 := by unfold mx; omega
  have h1 : decide (t % 8 ≥ 0) = true := decide_eq_true (by omega)
  have hl := ix_le s.toList
  subst h
  simp only [gatherumlaw05_TurnTexts.j0, bne_self_eq_false, Bool.false_eq_true, if_false, turn_Text_eq, Option.bind_some, and7, h0, h1, if_true, text_size, beq_self_eq_true]
  by_cases hi : ix s.toList ≥ 0
  · have hm : mx (ix s.toList) 0 = ix s.toList := by unfold mx; omega
    rw [if_pos (decide_eq_true hi), hm, if_pos (ix_text _ hi)]
  · have hm : mx (ix s.toList) 0 = 0 := by unfold mx; omega
    rw [if_neg (by simpa using hi), hm, if_pos rfl]
theorem TurnTexts' (a0 : Int) (a1 : ByteArray) : ∃ k, gatherumlaw05_TurnTexts.f k a0 a1 = some true := by
  refine ⟨40, ?_⟩
  simp only [gatherumlaw05_TurnTexts.f, alive40, Option.bind_some, if_true, turn_Text_eq, turn_Find_eq 20, ix_of_text]
  by_cases hs : (a1.size : Int) = 2
  · obtain ⟨x, y, rfl⟩ : ∃ x y, a1 = ⟨#[x, y]⟩ := by
      obtain ⟨⟨l⟩⟩ := a1
      have hl : l.length = 2 := by
        have : (ByteArray.size ⟨⟨l⟩⟩) = l.length := rfl
        omega
      match l, hl with
      | [x, y], _ => exact ⟨x, y, rfl⟩
    have hb0 : bt ⟨#[x, y]⟩ 0 = (x.toNat : Int) := rfl
    have hb1 : bt ⟨#[x, y]⟩ 1 = (y.toNat : Int) := rfl
    have ht : (ByteArray.mk #[x, y]).toList = [x, y] := by rw [ByteArray.toList_eq]
    have hz : ((ByteArray.mk #[x, y]).size : Int) = 2 := rfl
    have h2 := ix_two x y
    have go : ∀ one : Bool, decide (ix [x, y] ≥ 0) = one → gatherumlaw05_TurnTexts.j0 40 a0 ⟨#[x, y]⟩ (mx (a0 % 8) 0) (decide (a0 % 8 ≥ 0)) (mx (ix [x, y]) 0) (decide (ix [x, y] ≥ 0)) one = some true := by
      intro one h
      have := last_part 10 a0 ⟨#[x, y]⟩ one
      rw [ht] at this
      exact this h
    rw [hb0, hb1, ht, hz, if_pos rfl, if_pos (by omega)]
    generalize (x.toNat : Int) = p at *
    generalize (y.toNat : Int) = q at *
    by_cases e1 : p = 114
    · rw [if_pos e1, if_pos (by omega)]
      by_cases e2 : q ≥ 48
      · rw [if_pos e2]; apply go; exact decide_eq_decide.mpr (h2.trans (by omega))
      · rw [if_neg e2]; apply go; exact decide_eq_false (by rw [h2]; omega)
    · rw [if_neg e1]
      by_cases e3 : p = 109
      · rw [if_pos e3, if_pos (by omega)]
        by_cases e2 : q ≥ 48
        · rw [if_pos e2]; apply go; exact decide_eq_decide.mpr (h2.trans (by omega))
        · rw [if_neg e2]; apply go; exact decide_eq_false (by rw [h2]; omega)
      · rw [if_neg e3]; apply go; exact decide_eq_false (by rw [h2]; omega)
  · rw [if_neg hs]
    refine last_part 10 a0 a1 false (decide_eq_false ?_)
    rw [ix_other _ (by rw [ByteArray.toList_eq]; intro h; apply hs; have e : a1.size = a1.data.toList.length := (Array.length_toList).symm; omega)]
    omega
end Go.Proofs.Ytnahjeeochfljaa.PureTurnTexts
namespace Go.Proofs.Ytnahjeeochfljaa.Pure
open Go.Proofs.Ytnahjeeochfljaa.PTurnTexts
theorem TurnTexts : gatherumlaw05_TurnTexts.Pure := fun a b _ _ => PureTurnTexts.TurnTexts' a b
end Go.Proofs.Ytnahjeeochfljaa.Pure
