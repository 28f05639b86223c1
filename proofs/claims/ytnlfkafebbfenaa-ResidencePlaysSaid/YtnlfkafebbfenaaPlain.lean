/- The plain arithmetic behind math/bits.Div64, fixed.MulDiv and the reference's MulDiv: natural numbers and integers, no program in sight. -/
import Derived.Laws.Bits64b
import Derived.Lib.BitFns
import Derived.Lib.Mul64
namespace Go.Proofs.Ytnlfkafebbfenaa.Pl

/-! ### Knuth's correction of one digit -/

/-- q * y1 + r = u, and q is at least the true digit, at most 2^32 + 1. -/
def Kn (u y1 y0 d q r : Nat) : Prop := q * y1 + r = u ∧ (u * 4294967296 + d) / (y1 * 4294967296 + y0) ≤ q ∧ q ≤ 4294967297

theorem kn_start (u y1 y0 d : Nat) (hd : d < 4294967296) (hy : 2147483648 ≤ y1) (hy0 : y0 < 4294967296)
    (hu : u < y1 * 4294967296 + y0) : Kn u y1 y0 d (u / y1) (u - u / y1 * y1) := by
  have e : u / y1 * y1 ≤ u := Nat.div_mul_le_self u y1
  refine ⟨by omega, ?_, ?_⟩
  · have h1 : (u * 4294967296 + d) / 4294967296 = u := by omega
    have h2 : (u * 4294967296 + d) / (4294967296 * y1) = u / y1 := by rw [← Nat.div_div_eq_div_mul, h1]
    rw [← h2, Nat.mul_comm 4294967296 y1]
    exact Nat.div_le_div_left (by omega) (by omega)
  · have h3 : u / y1 < 4294967298 := (Nat.div_lt_iff_lt_mul (by omega)).2 (by omega)
    omega

theorem kn_r0 (u y1 : Nat) : u - u / y1 * y1 = u % y1 := by
  have e := Nat.div_add_mod u y1
  have c : y1 * (u / y1) = u / y1 * y1 := Nat.mul_comm _ _
  omega

theorem kn_mul {u y1 y0 d q r : Nat} (h : Kn u y1 y0 d q r) :
    q * (y1 * 4294967296 + y0) + r * 4294967296 = u * 4294967296 + q * y0 := by
  obtain ⟨e, _, _⟩ := h
  have c : q * (y1 * 4294967296 + y0) = q * y1 * 4294967296 + q * y0 := by rw [Nat.mul_add, Nat.mul_assoc]
  have : (q * y1 + r) * 4294967296 = u * 4294967296 := by rw [e]
  rw [Nat.add_mul] at this
  omega

/-- The test says yes: one less. -/
theorem kn_step {u y1 y0 d q r : Nat} (h : Kn u y1 y0 d q r) (hd : d < 4294967296)
    (hu : u < y1 * 4294967296 + y0) (ht : 4294967296 ≤ q ∨ 4294967296 * r + d < q * y0) : 1 ≤ q ∧ Kn u y1 y0 d (q - 1) (r + y1) := by
  have m := kn_mul h
  obtain ⟨e, l, b⟩ := h
  have hy : 0 < y1 * 4294967296 + y0 := by omega
  have hlt : (u * 4294967296 + d) / (y1 * 4294967296 + y0) < q := by
    rcases ht with ht | ht
    · exact Nat.lt_of_lt_of_le ((Nat.div_lt_iff_lt_mul hy).2 (by omega)) ht
    · exact (Nat.div_lt_iff_lt_mul hy).2 (by omega)
  have hq : 1 ≤ q := Nat.lt_of_le_of_lt (Nat.zero_le _) hlt
  obtain ⟨q, rfl⟩ : ∃ p, q = p + 1 := ⟨q - 1, by omega⟩
  refine ⟨hq, ?_, by omega, by omega⟩
  rw [Nat.add_mul] at e
  simp only [Nat.add_sub_cancel]
  omega

/-- The loop is left: the digit is the true one. -/
theorem kn_end {u y1 y0 d q r : Nat} (h : Kn u y1 y0 d q r) (hy : 0 < y1) (ht : q * y0 ≤ 4294967296 * r + d) :
    q = (u * 4294967296 + d) / (y1 * 4294967296 + y0) := by
  have m := kn_mul h
  obtain ⟨e, l, b⟩ := h
  refine Nat.le_antisymm ?_ l
  rw [Nat.le_div_iff_mul_le (by omega)]
  omega

theorem kn_break {u y1 y0 d q r : Nat} (h : Kn u y1 y0 d q r) (hy : 0 < y1) (hy0 : y0 < 4294967296) (hq : q ≤ 4294967296) (hr : 4294967296 ≤ r) :
    q = (u * 4294967296 + d) / (y1 * 4294967296 + y0) := by
  refine kn_end h hy ?_
  have h1 : q * y0 ≤ 4294967296 * 4294967295 := Nat.mul_le_mul hq (by omega)
  omega

/-- The digit is below 2^32. -/
theorem digit_lt (u Y d : Nat) (hu : u < Y) (hd : d < 4294967296) : (u * 4294967296 + d) / Y < 4294967296 := by
  have : (u + 1) * 4294967296 ≤ Y * 4294967296 := Nat.mul_le_mul_right _ hu
  exact (Nat.div_lt_iff_lt_mul (by omega)).2 (by omega)

/-- Two digits make the quotient. -/
theorem two_digits (u Y d1 d0 : Nat) (hY : 0 < Y) :
    ((u * 4294967296 + d1) / Y) * 4294967296 + ((u * 4294967296 + d1) % Y * 4294967296 + d0) / Y = (u * 18446744073709551616 + d1 * 4294967296 + d0) / Y ∧
    ((u * 4294967296 + d1) % Y * 4294967296 + d0) % Y = (u * 18446744073709551616 + d1 * 4294967296 + d0) % Y := by
  have e := Nat.div_add_mod (u * 4294967296 + d1) Y
  obtain ⟨q, hq⟩ : ∃ q, (u * 4294967296 + d1) / Y = q := ⟨_, rfl⟩
  obtain ⟨r, hr⟩ : ∃ r, (u * 4294967296 + d1) % Y = r := ⟨_, rfl⟩
  rw [hq, hr] at e
  rw [hq, hr]
  have e2 : u * 18446744073709551616 + d1 * 4294967296 + d0 = (r * 4294967296 + d0) + Y * (q * 4294967296) := by
    have : (Y * q + r) * 4294967296 = (u * 4294967296 + d1) * 4294967296 := by rw [e]
    rw [Nat.add_mul, Nat.mul_assoc] at this
    omega
  rw [e2, Nat.add_mul_div_left _ _ hY, Nat.add_mul_mod_self_left]
  omega

/-- What both sides were multiplied by drops out. -/
theorem unscale (n y k : Nat) (hk : 0 < k) : (n * k) / (y * k) = n / y ∧ (n * k) % (y * k) / k = n % y := by
  refine ⟨Nat.mul_div_mul_right n y hk, ?_⟩
  rw [Nat.mul_mod_mul_right, Nat.mul_div_cancel _ hk]

/-- A wrap of sums of wraps: the natural number that it is. -/
theorem digit_rest (u d q Y : Nat) (hq : q = (u * 4294967296 + d) / Y) (hY0 : 0 < Y) (hY : Y < 18446744073709551616) :
    (((u : Int) * 4294967296 + (d : Int) - (q : Int) * (Y : Int)) % 18446744073709551616) = (((u * 4294967296 + d) % Y : Nat) : Int) := by
  have e := Nat.div_add_mod (u * 4294967296 + d) Y
  have l := Nat.mod_lt (u * 4294967296 + d) hY0
  rw [← hq] at e
  obtain ⟨r, hr⟩ : ∃ r, (u * 4294967296 + d) % Y = r := ⟨_, rfl⟩
  rw [hr] at e l
  rw [hr]
  have e' : (Y : Int) * (q : Int) + (r : Int) = ((u * 4294967296 + d : Nat) : Int) := by rw [← e]; simp only [Int.natCast_add, Int.natCast_mul]
  have : (u : Int) * 4294967296 + (d : Int) - (q : Int) * (Y : Int) = (r : Int) := by rw [Int.mul_comm (q : Int)]; omega
  rw [this]
  omega

/-! ### The length of a word -/

theorem bitLen_bounds : ∀ (k x : Nat), k ≤ 64 → 2 ^ k ≤ x → x < 2 ^ (k + 1) → x < 2 ^ 64 → Lib.bitLen x = k + 1
  | k, x, _, h1, h2, h3 => by
    have e := Lib.bitLen_shift k x h1 h3
    have d : x / 2 ^ k = 1 := by
      have a : 1 ≤ x / 2 ^ k := by rw [Nat.le_div_iff_mul_le (Nat.two_pow_pos k)]; omega
      have b : x / 2 ^ k < 2 := (Nat.div_lt_iff_lt_mul (Nat.two_pow_pos k)).2 (by rw [Nat.pow_succ] at h2; omega)
      omega
    rw [e, d]
    rfl

theorem log_ex : ∀ (n x : Nat), 0 < x → x < 2 ^ n → ∃ k, k < n ∧ 2 ^ k ≤ x ∧ x < 2 ^ (k + 1)
  | 0, x, h0, h => by simp at h; omega
  | n + 1, x, h0, h => by
    rcases Nat.lt_or_ge x (2 ^ n) with h1 | h1
    · obtain ⟨k, a, b⟩ := log_ex n x h0 h1
      exact ⟨k, by omega, b⟩
    · exact ⟨n, by omega, h1, h⟩

/-- s leading zeros: y * 2^s fills the word. -/
theorem norm (y : Nat) (h0 : 0 < y) (h : y < 18446744073709551616) :
    ∃ s, s < 64 ∧ Lib.bitLen y = 64 - s ∧ 9223372036854775808 ≤ y * 2 ^ s ∧ y * 2 ^ s < 18446744073709551616 := by
  obtain ⟨k, hk, a, b⟩ := log_ex 64 y h0 h
  refine ⟨63 - k, by omega, ?_, ?_, ?_⟩
  · rw [bitLen_bounds k y (by omega) a b h]; omega
  · have := Nat.mul_le_mul_right (2 ^ (63 - k)) a
    rw [← Nat.pow_add, show k + (63 - k) = 63 from by omega] at this
    exact this
  · have := Nat.mul_lt_mul_of_pos_right b (Nat.two_pow_pos (63 - k))
    rw [← Nat.pow_add, show k + 1 + (63 - k) = 64 from by omega] at this
    exact this

end Go.Proofs.Ytnlfkafebbfenaa.Pl
