/- What MulDiv returns, as integers: the floor of a * b / c (c positive) where it fits a word; and that a quotient of sizes with a sign is just that. No program in sight. -/
import Derived.Laws.Bits64b
namespace Go.Proofs.Ytnlfkafebbfenaa.Pl

/-- Does a number fit an int? -/
def fit (n : Int) : Bool := decide (-9223372036854775808 ≤ n) && decide (n ≤ 9223372036854775807)
theorem fit_yes {n : Int} (h1 : -9223372036854775808 ≤ n) (h2 : n ≤ 9223372036854775807) : fit n = true := by simp [fit, h1, h2]
theorem fit_iff {n : Int} : fit n = true ↔ -9223372036854775808 ≤ n ∧ n ≤ 9223372036854775807 := by simp [fit]
theorem fit_no {n : Int} : fit n = false ↔ ¬ (-9223372036854775808 ≤ n ∧ n ≤ 9223372036854775807) := by rw [← fit_iff]; simp

/-- n where it fits, else 0. -/
def kept (n : Int) : Int := if fit n then n else 0
theorem kept_yes {n : Int} (h : fit n = true) : kept n = n := by simp [kept, h]
theorem kept_in (n : Int) : -9223372036854775808 ≤ kept n ∧ kept n ≤ 9223372036854775807 := by
  unfold kept
  split
  · rename_i h; exact fit_iff.1 h
  · omega

/-- the floor of a * b / c, for c positive -/
def md (a b c : Int) : Int := a * b / c

/-- the number with a size and a sign -/
def sg (m : Nat) (neg : Bool) : Int := if neg then -(m : Int) else (m : Int)

theorem sz_mul (a b : Int) : ((a.natAbs * b.natAbs : Nat) : Int) = if (decide (a < 0) != decide (b < 0)) then -(a * b) else a * b := by
  rcases Int.lt_or_le a 0 with ha | ha <;> rcases Int.lt_or_le b 0 with hb | hb
  · rw [Int.natCast_mul, Int.ofNat_natAbs_of_nonpos (Int.le_of_lt ha), Int.ofNat_natAbs_of_nonpos (Int.le_of_lt hb)]; simp [ha, hb, Int.neg_mul_neg]
  · have : ¬ b < 0 := by omega
    rw [Int.natCast_mul, Int.ofNat_natAbs_of_nonpos (Int.le_of_lt ha), Int.natAbs_of_nonneg hb]; simp [ha, this, Int.neg_mul]
  · have : ¬ a < 0 := by omega
    rw [Int.natCast_mul, Int.natAbs_of_nonneg ha, Int.ofNat_natAbs_of_nonpos (Int.le_of_lt hb)]; simp [hb, this, Int.mul_neg]
  · have h1 : ¬ a < 0 := by omega
    have h2 : ¬ b < 0 := by omega
    rw [Int.natCast_mul, Int.natAbs_of_nonneg ha, Int.natAbs_of_nonneg hb]; simp [h1, h2]

/-- is the product's sign a minus? -/
def ng (a b : Int) : Bool := decide (a < 0) != decide (b < 0)

/-- The sizes' quotient and remainder are the floor's. -/
theorem md_of (a b c : Int) (hc : 0 < c) : md a b c = if ng a b then (if (a.natAbs * b.natAbs) % c.natAbs = 0 then -((a.natAbs * b.natAbs / c.natAbs : Nat) : Int) else -((a.natAbs * b.natAbs / c.natAbs : Nat) : Int) - 1) else ((a.natAbs * b.natAbs / c.natAbs : Nat) : Int) := by
  have hs := sz_mul a b
  obtain ⟨c, rfl⟩ := Int.eq_ofNat_of_zero_le (Int.le_of_lt hc)
  obtain ⟨P, hP⟩ : ∃ P, a.natAbs * b.natAbs = P := ⟨_, rfl⟩
  rw [hP] at hs
  rw [hP, Int.natAbs_natCast]
  have hc' : 0 < c := by omega
  have e := Nat.div_add_mod P c
  have l := Nat.mod_lt P hc'
  obtain ⟨q, hq⟩ : ∃ q, P / c = q := ⟨_, rfl⟩
  obtain ⟨r, hr⟩ : ∃ r, P % c = r := ⟨_, rfl⟩
  rw [hq, hr] at e
  rw [hr] at l
  rw [hq, hr]
  have e' : (c : Int) * (q : Int) + (r : Int) = (P : Int) := by rw [← e]; simp only [Int.natCast_add, Int.natCast_mul]
  have hcne : (c : Int) ≠ 0 := by omega
  unfold md ng
  cases hn : (decide (a < 0) != decide (b < 0)) with
  | false =>
    rw [hn] at hs
    simp only [Bool.false_eq_true, if_false] at hs ⊢
    rw [← hs, ← e', Int.add_comm, Int.add_mul_ediv_left _ _ hcne, Int.ediv_eq_zero_of_lt (by omega) (by omega)]
    omega
  | true =>
    rw [hn] at hs
    simp only [if_true] at hs ⊢
    have ab : a * b = -(P : Int) := by omega
    rw [ab]
    by_cases h0 : r = 0
    · rw [if_pos h0]
      have : -(P : Int) = 0 + (c : Int) * (-(q : Int)) := by rw [Int.mul_neg]; omega
      rw [this, Int.add_mul_ediv_left _ _ hcne]
      simp
    · rw [if_neg h0]
      have : -(P : Int) = ((c : Int) - (r : Int)) + (c : Int) * (-(q : Int) - 1) := by rw [Int.mul_sub, Int.mul_neg]; omega
      rw [this, Int.add_mul_ediv_left _ _ hcne, Int.ediv_eq_zero_of_lt (by omega) (by omega)]
      omega

/-- The sizes' quotient does not fit one word: nor does the floor fit. -/
theorem md_big (a b c : Int) (hc : 0 < c) (h : c.natAbs ≤ a.natAbs * b.natAbs / 18446744073709551616) : fit (md a b c) = false := by
  have hq : 18446744073709551616 ≤ a.natAbs * b.natAbs / c.natAbs := by
    rw [Nat.le_div_iff_mul_le (by omega)]
    have := Nat.div_mul_le_self (a.natAbs * b.natAbs) 18446744073709551616
    have h2 := Nat.mul_le_mul_right 18446744073709551616 h
    omega
  rw [fit_no, md_of a b c hc]
  obtain ⟨q, hq'⟩ : ∃ q, a.natAbs * b.natAbs / c.natAbs = q := ⟨_, rfl⟩
  rw [hq'] at hq ⊢
  split
  · split <;> omega
  · omega

/-- What a size with a sign is as an int: the number and whether it fits. -/
theorem sg_fit (m : Nat) (neg : Bool) : fit (sg m neg) = if neg then decide (m ≤ 9223372036854775808) else decide (m ≤ 9223372036854775807) := by
  cases neg
  · simp only [sg, Bool.false_eq_true, if_false, fit]
    rw [Bool.eq_iff_iff]; simp; omega
  · simp only [sg, if_true, fit]
    rw [Bool.eq_iff_iff]; simp; omega

theorem fit_wrap {n : Int} (h : fit n = true) : IntKind.i64.wrap n = n := by
  have := fit_iff.1 h
  simp [IntKind.wrap, IntKind.bits, IntKind.signed]
  omega

end Go.Proofs.Ytnlfkafebbfenaa.Pl
