/- Plain lemmas on numbers that go round, on the bits that turns are read by, and on what a turn does. -/
import Derived.OpenShut
import Derived.Laws.BitsLemmas
namespace Go.Proofs.Ytpicoedbkeljoaa.Aid
open Go Go.RowKit
set_option linter.unusedVariables false
/-! ### whole numbers that go round -/
theorem wrap_lo (n : Int) : -9223372036854775808 ≤ wrap64 n := by unfold wrap64; omega
theorem wrap_hi (n : Int) : wrap64 n ≤ 9223372036854775807 := by unfold wrap64; omega
theorem wrap_id {n : Int} (h : -9223372036854775808 ≤ n) (h' : n ≤ 9223372036854775807) : wrap64 n = n := by unfold wrap64; omega
theorem wrap_eq {a b : Int} (h : ∃ q, a - b = 18446744073709551616 * q) : wrap64 a = wrap64 b := by obtain ⟨q, h⟩ := h; unfold wrap64; omega
theorem wrap_ex (a : Int) : ∃ q, wrap64 a = a + 18446744073709551616 * q := ⟨-((a + 9223372036854775808) / 18446744073709551616), by unfold wrap64; omega⟩
theorem wrap_wrap (a : Int) : wrap64 (wrap64 a) = wrap64 a := by unfold wrap64; omega
theorem wrap_add_l (a b : Int) : wrap64 (wrap64 a + b) = wrap64 (a + b) := by unfold wrap64; omega
theorem wrap_add_r (a b : Int) : wrap64 (a + wrap64 b) = wrap64 (a + b) := by unfold wrap64; omega
theorem wrap_sub_l (a b : Int) : wrap64 (wrap64 a - b) = wrap64 (a - b) := by unfold wrap64; omega
theorem wrap_sub_r (a b : Int) : wrap64 (a - wrap64 b) = wrap64 (a - b) := by unfold wrap64; omega
theorem wrap_neg (a : Int) : wrap64 (-wrap64 a) = wrap64 (-a) := by unfold wrap64; omega
theorem wrap_mul_l (a b : Int) : wrap64 (wrap64 a * b) = wrap64 (a * b) := by
  obtain ⟨q, h⟩ := wrap_ex a
  rw [h]; apply wrap_eq; exact ⟨q * b, by rw [Int.add_mul, Int.mul_assoc]; omega⟩
theorem wrap_mul_r (a b : Int) : wrap64 (a * wrap64 b) = wrap64 (a * b) := by
  rw [Int.mul_comm, wrap_mul_l, Int.mul_comm]

/-! ### the bits that turns are read by -/
theorem bits_small (n : Nat) (h : n < 8) : IntKind.i64.wrap (n : Int) = n := by rw [IntKind.wrap_i64]; omega
theorem toNat_ofInt64 (a : Int) : (BitVec.ofInt 64 a).toNat = (a % 18446744073709551616).toNat := by
  rw [BitVec.toNat_ofInt]; rfl
theorem nat_and4 (n : Nat) : n &&& 4 = if n % 8 < 4 then 0 else 4 := by
  have h : n &&& 4 = (n % 8) &&& 4 := by
    have h7 : n % 8 = n &&& 7 := (Nat.and_two_pow_sub_one_eq_mod n 3).symm
    rw [h7, Nat.and_assoc]; rfl
  rw [h]
  have key : ∀ m : Fin 8, m.1 &&& 4 = if m.1 < 4 then 0 else 4 := by decide
  exact key ⟨n % 8, Nat.mod_lt _ (by decide)⟩
theorem and_of (a : Int) (c : Nat) (hc : c < 8) : bits .and .i64 a c = (((a % 18446744073709551616).toNat &&& c : Nat) : Int) := by
  have hc' : (BitVec.ofInt 64 (c : Int)).toNat = c := by rw [toNat_ofInt64]; omega
  rw [show bits .and .i64 a c = IntKind.i64.wrap ((BitVec.ofInt 64 a &&& BitVec.ofInt 64 (c : Int)).toNat : Nat) from rfl, BitVec.toNat_and, toNat_ofInt64 a, hc']
  exact bits_small _ (Nat.lt_of_le_of_lt Nat.and_le_right hc)
theorem and7 (a : Int) : bits .and .i64 a 7 = a % 8 := by
  have h := and_of a 7 (by decide)
  have e : ((a % 18446744073709551616).toNat &&& 7 : Nat) = (a % 18446744073709551616).toNat % 8 := Nat.and_two_pow_sub_one_eq_mod _ 3
  rw [show (7 : Int) = ((7 : Nat) : Int) from rfl, h, e]; omega
theorem and3 (a : Int) : bits .and .i64 a 3 = a % 4 := by
  have h := and_of a 3 (by decide)
  have e : ((a % 18446744073709551616).toNat &&& 3 : Nat) = (a % 18446744073709551616).toNat % 4 := Nat.and_two_pow_sub_one_eq_mod _ 2
  rw [show (3 : Int) = ((3 : Nat) : Int) from rfl, h, e]; omega
theorem and1 (a : Int) : bits .and .i64 a 1 = a % 2 := by
  have h := and_of a 1 (by decide)
  have e : ((a % 18446744073709551616).toNat &&& 1 : Nat) = (a % 18446744073709551616).toNat % 2 := Nat.and_two_pow_sub_one_eq_mod _ 1
  rw [show (1 : Int) = ((1 : Nat) : Int) from rfl, h, e]; omega
theorem and4 (a : Int) : bits .and .i64 a 4 = if a % 8 < 4 then 0 else 4 := by
  have h := and_of a 4 (by decide)
  rw [show (4 : Int) = ((4 : Nat) : Int) from rfl, h, nat_and4]
  by_cases c : a % 8 < 4
  · rw [if_pos (by omega), if_pos (by omega)]; rfl
  · rw [if_neg (by omega), if_neg (by omega)]
theorem xor4 (a b : Int) : bits .and .i64 (bits .xor .i64 a b) 4 = if (a % 8 < 4) = (b % 8 < 4) then 0 else 4 := by
  have h1 : (bits .xor .i64 a b) % 8 = ((((a % 18446744073709551616).toNat ^^^ (b % 18446744073709551616).toNat) % 8 : Nat) : Int) := by
    rw [show bits .xor .i64 a b = IntKind.i64.wrap ((BitVec.ofInt 64 a ^^^ BitVec.ofInt 64 b).toNat : Nat) from rfl, BitVec.toNat_xor, toNat_ofInt64, toNat_ofInt64, IntKind.wrap_i64]
    omega
  have h2 : ((a % 18446744073709551616).toNat ^^^ (b % 18446744073709551616).toNat) % 8 = ((a % 8).toNat ^^^ (b % 8).toNat) := by
    have e := Nat.xor_mod_two_pow (a := (a % 18446744073709551616).toNat) (b := (b % 18446744073709551616).toNat) (n := 3)
    simp only [show 2 ^ 3 = 8 from rfl] at e
    rw [e, show (a % 18446744073709551616).toNat % 8 = (a % 8).toNat by omega, show (b % 18446744073709551616).toNat % 8 = (b % 8).toNat by omega]
  rw [and4, h1, h2]
  have ha : (a % 8).toNat < 8 := by omega
  have hb : (b % 8).toNat < 8 := by omega
  have ha' : (a % 8 < 4) = ((a % 8).toNat < 4) := by simp only [eq_iff_iff]; omega
  have hb' : (b % 8 < 4) = ((b % 8).toNat < 4) := by simp only [eq_iff_iff]; omega
  simp only [ha', hb']
  generalize (a % 8).toNat = m at *
  generalize (b % 8).toNat = n at *
  clear h1 h2 ha' hb'
  have key : ∀ m : Fin 8, ∀ n : Fin 8, (if ((m.1 ^^^ n.1 : Nat) : Int) < 4 then (0 : Int) else 4) = if (m.1 < 4) = (n.1 < 4) then 0 else 4 := by decide
  exact key ⟨m, ha⟩ ⟨n, hb⟩
theorem or34 (a : Int) (c : Int) (hc : c = 0 ∨ c = 4) : bits .or .i64 (a % 4) c = a % 4 + c := by
  have h0 : 0 ≤ a % 4 := by omega
  have h1 : a % 4 < 4 := by omega
  generalize a % 4 = m at *
  have : m = 0 ∨ m = 1 ∨ m = 2 ∨ m = 3 := by omega
  rcases hc with rfl | rfl <;> rcases this with rfl | rfl | rfl | rfl <;> decide
/-! ### what a turn does -/
def R (x : Int) : Prop := -9223372036854775808 ≤ x ∧ x ≤ 9223372036854775807
theorem R_wrap (x : Int) : R (wrap64 x) := ⟨wrap_lo x, wrap_hi x⟩
theorem R_id {x : Int} (h : R x) : wrap64 x = x := wrap_id h.1 h.2
theorem R_of {x : Int} (h : (Lit.int .i64 x).wf = true) : R x := bounds_i64 h
/-- A point, brought by a turn. -/
def D (t x y : Int) : Int × Int :=
  if t % 8 = 0 then (x, y) else if t % 8 = 1 then (wrap64 (-y), x) else if t % 8 = 2 then (wrap64 (-x), wrap64 (-y)) else if t % 8 = 3 then (y, wrap64 (-x))
  else if t % 8 = 4 then (wrap64 (-x), y) else if t % 8 = 5 then (wrap64 (-y), wrap64 (-x)) else if t % 8 = 6 then (x, wrap64 (-y)) else (y, x)
theorem eight (t : Int) : t % 8 = 0 ∨ t % 8 = 1 ∨ t % 8 = 2 ∨ t % 8 = 3 ∨ t % 8 = 4 ∨ t % 8 = 5 ∨ t % 8 = 6 ∨ t % 8 = 7 := by omega
theorem D_R {t x y : Int} (hx : R x) (hy : R y) : R (D t x y).1 ∧ R (D t x y).2 := by
  rcases eight t with h | h | h | h | h | h | h | h <;> simp [D, h, hx, hy, R_wrap]
theorem wl1 : wrap64 1 = 1 := wrap_id (by omega) (by omega)
theorem wl2 : wrap64 2 = 2 := wrap_id (by omega) (by omega)
theorem wl3 : wrap64 3 = 3 := wrap_id (by omega) (by omega)
theorem wm1 : wrap64 (-1) = -1 := wrap_id (by omega) (by omega)
theorem wl0 : wrap64 0 = 0 := wrap_id (by omega) (by omega)
theorem wnn {y : Int} (h : R y) : wrap64 (-wrap64 (-y)) = y := by rw [wrap_neg, Int.neg_neg, R_id h]
/-- The matrix of a turn. -/
def M (t : Int) : Int × Int × Int × Int :=
  if t % 8 = 0 then (1, 0, 0, 1) else if t % 8 = 1 then (0, 1, -1, 0) else if t % 8 = 2 then (-1, 0, 0, -1) else if t % 8 = 3 then (0, -1, 1, 0)
  else if t % 8 = 4 then (-1, 0, 0, 1) else if t % 8 = 5 then (0, -1, -1, 0) else if t % 8 = 6 then (1, 0, 0, -1) else (0, 1, 1, 0)
/-! ### one turn behind another one -/
def th (a b : Int) : Int := (if b % 8 < 4 then b + a else b - a) % 4 + (if (a % 8 < 4) = (b % 8 < 4) then 0 else 4)
def bk (a : Int) : Int := if a % 8 < 4 then (-a) % 4 else a % 8
theorem th_red (a b : Int) : th a b = th (a % 8) (b % 8) := by
  unfold th
  have ha : a % 8 % 8 = a % 8 := by omega
  have hb : b % 8 % 8 = b % 8 := by omega
  rw [ha, hb]
  congr 1
  split <;> omega
theorem bk_red (a : Int) : bk a = bk (a % 8) := by
  unfold bk
  have ha : a % 8 % 8 = a % 8 := by omega
  rw [ha]
  split <;> omega
theorem M_red (a : Int) : M a = M (a % 8) := by
  unfold M
  have ha : a % 8 % 8 = a % 8 := by omega
  rw [ha]
/-- What holds of the eight turns holds of all. -/
theorem fin8 (a : Int) : ∃ x : Fin 8, a % 8 = (x.1 : Int) := ⟨⟨(a % 8).toNat, by omega⟩, by simp; omega⟩
theorem wrap_m4 (x : Int) : wrap64 x % 4 = x % 4 := by unfold wrap64; omega
theorem c04 (p : Prop) [Decidable p] : (if p then (0 : Int) else 4) = 0 ∨ (if p then (0 : Int) else 4) = 4 := by split <;> simp
theorem th_bounds (a b : Int) : 0 ≤ th a b ∧ th a b ≤ 7 := by
  unfold th
  have := c04 ((a % 8 < 4) = (b % 8 < 4))
  omega
theorem bk_bounds (a : Int) : 0 ≤ bk a ∧ bk a ≤ 7 := by unfold bk; split <;> omega
theorem th_assoc (a b c : Int) : th (th a b) c = th a (th b c) := by
  obtain ⟨x, hx⟩ := fin8 a
  obtain ⟨y, hy⟩ := fin8 b
  obtain ⟨z, hz⟩ := fin8 c
  rw [th_red (th a b) c, th_red a (th b c), th_red a b, th_red b c, hx, hy, hz]
  have key : ∀ x y z : Fin 8, th (th (x.1 : Int) y.1 % 8) z.1 = th x.1 (th y.1 z.1 % 8) := by decide +kernel
  exact key x y z
theorem th_back (a : Int) : th a (bk a) = 0 ∧ th (bk a) a = 0 ∧ th 0 a = a % 8 ∧ th a 0 = a % 8 := by
  obtain ⟨x, hx⟩ := fin8 a
  rw [th_red a (bk a), th_red (bk a) a, th_red 0 a, th_red a 0, bk_red a, hx]
  have key : ∀ x : Fin 8, th x.1 (bk x.1 % 8) = 0 ∧ th (bk x.1 % 8) x.1 = 0 ∧ th (0 % 8) x.1 = x.1 ∧ th x.1 (0 % 8) = x.1 := by decide +kernel
  exact key x
/-! ### turns bring sums to sums, and one behind another one does both -/
theorem D_red (t x y : Int) : D t x y = D (t % 8) x y := by
  unfold D
  have h : t % 8 % 8 = t % 8 := by omega
  rw [h]
theorem D_zero (x y : Int) : D 0 x y = (x, y) := by simp [D]
theorem D_add (t x y u v : Int) : D t (wrap64 (x + u)) (wrap64 (y + v)) = (wrap64 ((D t x y).1 + (D t u v).1), wrap64 ((D t x y).2 + (D t u v).2)) := by
  have hx : wrap64 (-wrap64 (x + u)) = wrap64 (wrap64 (-x) + wrap64 (-u)) := by rw [wrap_neg, wrap_add_l, wrap_add_r]; congr 1; omega
  have hy : wrap64 (-wrap64 (y + v)) = wrap64 (wrap64 (-y) + wrap64 (-v)) := by rw [wrap_neg, wrap_add_l, wrap_add_r]; congr 1; omega
  rcases eight t with h | h | h | h | h | h | h | h <;> simp [D, h, hx, hy]
theorem D_neg (t x y : Int) (hx : R x) (hy : R y) : D t (wrap64 (-x)) (wrap64 (-y)) = (wrap64 (-(D t x y).1), wrap64 (-(D t x y).2)) := by
  rcases eight t with h | h | h | h | h | h | h | h <;> simp [D, h, wnn hx, wnn hy]
theorem th_mod (a b : Int) : th a b % 8 = th (a % 8) (b % 8) % 8 := by rw [← th_red]
set_option maxHeartbeats 1000000 in
theorem D_comp (a b x y : Int) (hx : R x) (hy : R y) : D b (D a x y).1 (D a x y).2 = D (th a b) x y := by
  have hn1 := wnn hx
  have hn2 := wnn hy
  rw [D_red (th a b), th_mod]
  rcases eight a with h | h | h | h | h | h | h | h <;> rcases eight b with h' | h' | h' | h' | h' | h' | h' | h' <;> simp [D, h, h', th, hn1, hn2]
theorem w_sub_self (x y : Int) : wrap64 (wrap64 (x + y) + wrap64 (-y)) = wrap64 x := by rw [wrap_add_l, wrap_add_r]; congr 1; omega
end Go.Proofs.Ytpicoedbkeljoaa.Aid
