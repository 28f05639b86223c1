/- The plain arithmetic of the reference's long division, 128 bits by one word, bit by bit: no program in sight. -/
import Derived.Laws.Bits64b
import Derived.Laws.BitsAllLaws
namespace Go.Proofs.Ytnlfkafebbfenaa.Pl

/-- after i of the 128 rounds: what is left of the number, the quotient and the remainder so far. -/
def Dv (N c i M Q r : Nat) : Prop := M = N * 2 ^ i % 340282366920938463463374607431768211456 ∧ N * 2 ^ i / 340282366920938463463374607431768211456 = Q * c + r ∧ r < c

theorem dv_start (N c : Nat) (hN : N < 340282366920938463463374607431768211456) (hc : 0 < c) : Dv N c 0 N 0 0 := by
  refine ⟨?_, ?_, hc⟩
  · rw [Nat.pow_zero, Nat.mul_one, Nat.mod_eq_of_lt hN]
  · rw [Nat.pow_zero, Nat.mul_one, Nat.div_eq_of_lt hN]; omega

theorem dv_next (N i : Nat) : N * 2 ^ (i + 1) % 340282366920938463463374607431768211456 = 2 * (N * 2 ^ i % 340282366920938463463374607431768211456) % 340282366920938463463374607431768211456 ∧
    N * 2 ^ (i + 1) / 340282366920938463463374607431768211456 = 2 * (N * 2 ^ i / 340282366920938463463374607431768211456) + (N * 2 ^ i % 340282366920938463463374607431768211456) / 170141183460469231731687303715884105728 := by
  have e : N * 2 ^ (i + 1) = 2 * (N * 2 ^ i) := by rw [Nat.pow_succ, ← Nat.mul_assoc, Nat.mul_comm]
  rw [e]
  obtain ⟨x, hx⟩ : ∃ x, N * 2 ^ i = x := ⟨_, rfl⟩
  rw [hx]
  constructor <;> omega

theorem dv_yes {N c i M Q r : Nat} (h : Dv N c i M Q r) (ht : c ≤ 2 * r + M / 170141183460469231731687303715884105728) :
    Dv N c (i + 1) (2 * M % 340282366920938463463374607431768211456) (2 * Q + 1) (2 * r + M / 170141183460469231731687303715884105728 - c) := by
  obtain ⟨e1, e2, e3⟩ := h
  obtain ⟨n1, n2⟩ := dv_next N i
  have hM : M < 340282366920938463463374607431768211456 := by rw [e1]; exact Nat.mod_lt _ (by omega)
  refine ⟨by rw [n1, ← e1], ?_, by omega⟩
  rw [n2, e2, ← e1, Nat.add_mul, Nat.mul_assoc]
  omega

theorem dv_no {N c i M Q r : Nat} (h : Dv N c i M Q r) (ht : 2 * r + M / 170141183460469231731687303715884105728 < c) :
    Dv N c (i + 1) (2 * M % 340282366920938463463374607431768211456) (2 * Q) (2 * r + M / 170141183460469231731687303715884105728) := by
  obtain ⟨e1, e2, e3⟩ := h
  obtain ⟨n1, n2⟩ := dv_next N i
  refine ⟨by rw [n1, ← e1], ?_, ht⟩
  rw [n2, e2, ← e1, Nat.mul_assoc]
  omega

theorem dv_end {N c M Q r : Nat} (h : Dv N c 128 M Q r) : Q = N / c ∧ r = N % c := by
  obtain ⟨_, e2, e3⟩ := h
  have e : N = Q * c + r := by
    rw [← e2]
    exact (Nat.mul_div_cancel N (by omega)).symm
  have hc : 0 < c := by omega
  rw [e, Nat.mul_comm Q c, Nat.mul_add_div hc, Nat.mul_add_mod, Nat.div_eq_of_lt e3, Nat.mod_eq_of_lt e3]
  exact ⟨rfl, rfl⟩

theorem dv_Q {N c i M Q r : Nat} (h : Dv N c i M Q r) (hi : i < 128) (hN : N < 340282366920938463463374607431768211456) : Q < 170141183460469231731687303715884105728 := by
  obtain ⟨_, e2, e3⟩ := h
  have h1 : N * 2 ^ i / 340282366920938463463374607431768211456 < 2 ^ i := by
    rw [Nat.div_lt_iff_lt_mul (by omega), Nat.mul_comm (2 ^ i)]
    exact Nat.mul_lt_mul_of_pos_right hN (Nat.two_pow_pos i)
  have h2 : 2 ^ i ≤ 2 ^ 127 := Nat.pow_le_pow_right (by omega) (by omega)
  have h3 : Q * 1 ≤ Q * c := Nat.mul_le_mul_left _ (by omega)
  have h4 : (2 : Nat) ^ 127 = 170141183460469231731687303715884105728 := rfl
  omega

/-- The same in words. -/
def DvW (N c i hi lo q1 q0 r : Nat) : Prop := Dv N c i (hi * 18446744073709551616 + lo) (q1 * 18446744073709551616 + q0) r ∧ N < 340282366920938463463374607431768211456 ∧
  c < 18446744073709551616 ∧ hi < 18446744073709551616 ∧ lo < 18446744073709551616 ∧ q1 < 18446744073709551616 ∧ q0 < 18446744073709551616

theorem dvw_start (hi lo c : Nat) (h1 : hi < 18446744073709551616) (h2 : lo < 18446744073709551616) (hc : 0 < c) (hc' : c < 18446744073709551616) :
    DvW (hi * 18446744073709551616 + lo) c 0 hi lo 0 0 0 :=
  ⟨dv_start _ c (by omega) hc, by omega, hc', h1, h2, by omega, by omega⟩

theorem dvw_r {N c i hi lo q1 q0 r : Nat} (h : DvW N c i hi lo q1 q0 r) : r < c ∧ c < 18446744073709551616 ∧ hi < 18446744073709551616 ∧ lo < 18446744073709551616 ∧ q1 < 18446744073709551616 ∧ q0 < 18446744073709551616 := by
  obtain ⟨⟨_, _, h⟩, _, b⟩ := h
  exact ⟨h, b⟩

theorem dv_cast {N c i M Q r M' Q' r' : Nat} (h : Dv N c i M Q r) (h1 : M' = M) (h2 : Q' = Q) (h3 : r' = r) : Dv N c i M' Q' r' := by rw [h1, h2, h3]; exact h

theorem dvw_yes {N c i hi lo q1 q0 r : Nat} (h : DvW N c i hi lo q1 q0 r) (hi' : i < 128) (ht : r / 9223372036854775808 = 1 ∨ c ≤ 2 * r % 18446744073709551616 + hi / 9223372036854775808) :
    DvW N c (i + 1) (2 * hi % 18446744073709551616 + lo / 9223372036854775808) (2 * lo % 18446744073709551616) (2 * q1 % 18446744073709551616 + q0 / 9223372036854775808) (2 * q0 % 18446744073709551616 + 1)
      ((2 * r % 18446744073709551616 + hi / 9223372036854775808 + (18446744073709551616 - c)) % 18446744073709551616) := by
  obtain ⟨d, hN, a, b1, b2, b3, b4⟩ := h
  have hQ := dv_Q d hi' hN
  have hr := d.2.2
  have hb : (hi * 18446744073709551616 + lo) / 170141183460469231731687303715884105728 = hi / 9223372036854775808 := by omega
  refine ⟨dv_cast (dv_yes d (by rw [hb]; omega)) (by omega) (by omega) (by rw [hb]; omega), hN, a, by omega, by omega, by omega, by omega⟩

theorem dvw_no {N c i hi lo q1 q0 r : Nat} (h : DvW N c i hi lo q1 q0 r) (hi' : i < 128) (h1 : r / 9223372036854775808 ≠ 1) (h2 : 2 * r % 18446744073709551616 + hi / 9223372036854775808 < c) :
    DvW N c (i + 1) (2 * hi % 18446744073709551616 + lo / 9223372036854775808) (2 * lo % 18446744073709551616) (2 * q1 % 18446744073709551616 + q0 / 9223372036854775808) (2 * q0 % 18446744073709551616)
      (2 * r % 18446744073709551616 + hi / 9223372036854775808) := by
  obtain ⟨d, hN, a, b1, b2, b3, b4⟩ := h
  have hQ := dv_Q d hi' hN
  have hr := d.2.2
  have hb : (hi * 18446744073709551616 + lo) / 170141183460469231731687303715884105728 = hi / 9223372036854775808 := by omega
  refine ⟨dv_cast (dv_no d (by rw [hb]; omega)) (by omega) (by omega) (by rw [hb]; omega), hN, a, by omega, by omega, by omega, by omega⟩

theorem dvw_end {N c hi lo q1 q0 r : Nat} (h : DvW N c 128 hi lo q1 q0 r) : q1 = N / c / 18446744073709551616 ∧ q0 = N / c % 18446744073709551616 ∧ r = N % c := by
  obtain ⟨d, hN, a, b1, b2, b3, b4⟩ := h
  obtain ⟨e1, e2⟩ := dv_end d
  rw [← e1]
  exact ⟨by omega, by omega, e2⟩

/-! ### How the words stand in the walk -/
theorem sh1 (a : Nat) : IntKind.u64.wrap ((a : Int) * 2) = ((2 * a % 18446744073709551616 : Nat) : Int) := by rw [IntKind.wrap_u64]; omega
theorem top1 (a : Nat) : (a : Int) / 9223372036854775808 = ((a / 9223372036854775808 : Nat) : Int) := by omega
theorem or1 (a b : Nat) (hb : b < 2) : bits .or .u64 ((2 * a % 18446744073709551616 : Nat) : Int) (b : Int) = ((2 * a % 18446744073709551616 + b : Nat) : Int) := by
  rw [bits_or_u64_nat _ _ (by omega) (by omega), nat_join 1 _ _ (by omega) (by omega)]

end Go.Proofs.Ytnlfkafebbfenaa.Pl
