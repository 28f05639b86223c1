/- Contracts of fixed.size, signed, MulDiv (a positive divisor): what they return; the world stays. -/
import Derived.Test.YtnlfkafebbfenaaDiv64
import Derived.Test.YtnlfkafebbfenaaPlainMd
import Derived.Lib.Hide
namespace Go.Proofs.Ytnlfkafebbfenaa
open Go.RowKit Go.Lib

theorem fret2 {a a' : Value} {b b' : Value} (h : a = a') (k : b = b') : Ending.returned (.tuple #[a, b]) = .returned (.tuple #[a', b']) := by rw [h, k]
theorem freti {k : IntKind} {a b : Int} (h : a = b) : Value.int k a = .int k b := by rw [h]
theorem fretb {a b : Bool} (h : a = b) : Value.bool a = .bool b := by rw [h]

set_option maxHeartbeats 400000 in
theorem fsize_any (n : Int) (w : World) (h0 : -9223372036854775808 ≤ n) (h1 : n ≤ 9223372036854775807) :
    Calls Try.prog 51 #[.int .i64 n] w fun e w' => e = .returned (.int .u64 (n.natAbs : Int)) ∧ w = w' := by
  by_cases hn : n < 0
  · go_enter Try.func51, Try.ntmps51
    go_wp2
    go_ret
    refine ⟨congrArg Ending.returned (freti ?_), rfl⟩
    first | (simp only [IntKind.wrap_u64]; omega) | omega
  · go_enter Try.func51, Try.ntmps51
    go_wp2
    go_ret
    refine ⟨congrArg Ending.returned (freti ?_), rfl⟩
    first | (simp only [IntKind.wrap_u64]; omega) | omega

theorem sgn_pos {m : Nat} (h : (m : Int) ≤ 9223372036854775807) : (m : Int) = Pl.kept (Pl.sg m false) ∧ true = Pl.fit (Pl.sg m false) := by
  have e : Pl.fit (Pl.sg m false) = true := by rw [Pl.sg_fit]; simp; omega
  rw [e, Pl.kept_yes e]
  exact ⟨rfl, rfl⟩
theorem sgn_pos_no {m : Nat} (h : (9223372036854775807 : Int) < (m : Int)) : (0 : Int) = Pl.kept (Pl.sg m false) ∧ false = Pl.fit (Pl.sg m false) := by
  have e : Pl.fit (Pl.sg m false) = false := by rw [Pl.sg_fit]; simp; omega
  simp [Pl.kept, e]
theorem sgn_neg {m : Nat} (h : (m : Int) ≤ 9223372036854775808) : wrap64 (IntKind.u64.wrap (-(m : Int))) = Pl.kept (Pl.sg m true) ∧ true = Pl.fit (Pl.sg m true) := by
  have e : Pl.fit (Pl.sg m true) = true := by rw [Pl.sg_fit]; simp; omega
  rw [e, Pl.kept_yes e, IntKind.wrap_u64]
  unfold wrap64
  refine ⟨?_, rfl⟩
  simp only [Pl.sg, if_true]
  omega
theorem sgn_neg_no {m : Nat} (h : (9223372036854775808 : Int) < (m : Int)) : (0 : Int) = Pl.kept (Pl.sg m true) ∧ false = Pl.fit (Pl.sg m true) := by
  have e : Pl.fit (Pl.sg m true) = false := by rw [Pl.sg_fit]; simp; omega
  simp [Pl.kept, e]

set_option maxHeartbeats 400000 in
theorem fsigned_any (m : Nat) (neg : Bool) (hm : m < 18446744073709551616) (w : World) :
    Calls Try.prog 53 #[.int .u64 m, .bool neg] w fun e w' => e = .returned (.tuple #[.int .i64 (Pl.kept (Pl.sg m neg)), .bool (Pl.fit (Pl.sg m neg))]) ∧ w = w' := by
  cases neg
  · by_cases h : (m : Int) ≤ 9223372036854775807
    · obtain ⟨k1, k2⟩ := sgn_pos h
      rw [← k1, ← k2]
      clear k1 k2
      go_enter Try.func53, Try.ntmps53
      go_wp2
      go_ret2
      exact ⟨rfl, rfl⟩
    · obtain ⟨k1, k2⟩ := sgn_pos_no (Int.not_le.1 h)
      rw [← k1, ← k2]
      clear k1 k2
      go_enter Try.func53, Try.ntmps53
      go_wp2
      go_ret2
      exact ⟨rfl, rfl⟩
  · by_cases h : (m : Int) ≤ 9223372036854775808
    · obtain ⟨k1, k2⟩ := sgn_neg h
      rw [← k1, ← k2]
      clear k1 k2
      go_enter Try.func53, Try.ntmps53
      go_wp2
      go_ret2
      exact ⟨rfl, rfl⟩
    · obtain ⟨k1, k2⟩ := sgn_neg_no (Int.not_le.1 h)
      rw [← k1, ← k2]
      clear k1 k2
      go_enter Try.func53, Try.ntmps53
      go_wp2
      go_ret2
      exact ⟨rfl, rfl⟩

theorem fsize_as (n : Int) (N : Nat) (h : Hid (n.natAbs = N)) (w : World) (h0 : -9223372036854775808 ≤ n) (h1 : n ≤ 9223372036854775807) :
    Calls Try.prog 51 #[.int .i64 n] w fun e w' => e = .returned (.int .u64 (N : Int)) ∧ w = w' := by
  have := fsize_any n w h0 h1
  rw [h.out] at this
  exact this
theorem mul64_as (x y hi lo : Nat) (h : Hid (x * y / 18446744073709551616 = hi ∧ x * y % 18446744073709551616 = lo)) (hx : x < 18446744073709551616) (hy : y < 18446744073709551616) (w : World) :
    Calls Try.prog 50 #[.int .u64 x, .int .u64 y] w fun e w' => e = .returned (.tuple #[.int .u64 (hi : Int), .int .u64 (lo : Int)]) ∧ w = w' := by
  have := mul64_any x y hx hy w
  rw [h.out.1, h.out.2] at this
  exact this
theorem div64_as (hi lo y q r : Nat) (h : Hid ((hi * 18446744073709551616 + lo) / y = q ∧ (hi * 18446744073709551616 + lo) % y = r)) (hlo : lo < 18446744073709551616) (hy : y < 18446744073709551616) (hh : hi < y) (w : World) :
    Calls Try.prog 52 #[.int .u64 hi, .int .u64 lo, .int .u64 y] w fun e w' => e = .returned (.tuple #[.int .u64 (q : Int), .int .u64 (r : Int)]) ∧ ∃ n, w' = w.drewN n := by
  have := div64_any hi lo y hlo hy hh w
  rw [h.out.1, h.out.2] at this
  exact this

set_option maxRecDepth 100000 in
set_option maxHeartbeats 1000000 in
theorem fmd_big (a b c : Int) (A B C hi lo : Nat) (ha : -9223372036854775808 ≤ a) (ha' : a ≤ 9223372036854775807) (hb : -9223372036854775808 ≤ b) (hb' : b ≤ 9223372036854775807) (hc : 0 < c) (hc' : c ≤ 9223372036854775807)
    (hA : Hid (a.natAbs = A)) (hB : Hid (b.natAbs = B)) (hC : Hid (c.natAbs = C)) (lA : A < 18446744073709551616) (lB : B < 18446744073709551616) (hm : Hid (A * B / 18446744073709551616 = hi ∧ A * B % 18446744073709551616 = lo))
    (h : (C : Int) ≤ (hi : Int)) (w : World) :
    Calls Try.prog 37 #[.int .i64 a, .int .i64 b, .int .i64 c] w fun e w' => e = .returned (.tuple #[.int .i64 0, .bool false]) ∧ ∃ n, w' = w.drewN n := by
  go_enter Try.func37, Try.ntmps37
  go_wp2_with fail
  refine (fsize_as a A hA _ ha ha').mono ?_
  rintro e w' ⟨rfl, rfl⟩
  go_wp2_with fail
  refine (fsize_as b B hB _ hb hb').mono ?_
  rintro e w' ⟨rfl, rfl⟩
  go_wp2_with fail
  refine (mul64_as A B hi lo hm lA lB _).mono ?_
  rintro e w' ⟨rfl, rfl⟩
  go_wp2_with fail
  refine (fsize_as c C hC _ (by omega) hc').mono ?_
  rintro e w' ⟨rfl, rfl⟩
  go_wp2
  go_ret2
  exact ⟨rfl, 0, rfl⟩

set_option maxRecDepth 100000 in
set_option maxHeartbeats 1000000 in
theorem fmd_core (a b c : Int) (A B C hi lo q r m : Nat) (neg : Bool) (ha : -9223372036854775808 ≤ a) (ha' : a ≤ 9223372036854775807) (hb : -9223372036854775808 ≤ b) (hb' : b ≤ 9223372036854775807) (hc : 0 < c) (hc' : c ≤ 9223372036854775807)
    (hA : Hid (a.natAbs = A)) (hB : Hid (b.natAbs = B)) (hC : Hid (c.natAbs = C)) (lA : A < 18446744073709551616) (lB : B < 18446744073709551616) (lC : C < 18446744073709551616) (hm : Hid (A * B / 18446744073709551616 = hi ∧ A * B % 18446744073709551616 = lo))
    (llo : lo < 18446744073709551616) (h : hi < C) (hq : Hid ((hi * 18446744073709551616 + lo) / C = q ∧ (hi * 18446744073709551616 + lo) % C = r)) (lq : q < 18446744073709551616)
    (hng : Hid (Pl.ng a b = neg)) (hmm : Hid (m = if neg = true ∧ r ≠ 0 then q + 1 else q)) (w : World) :
    Calls Try.prog 37 #[.int .i64 a, .int .i64 b, .int .i64 c] w fun e w' => e = .returned (.tuple #[.int .i64 (Pl.kept (Pl.sg m neg)), .bool (Pl.fit (Pl.sg m neg))]) ∧ ∃ n, w' = w.drewN n := by

  have hcd : decide (c < 0) = false := by simp; omega
  cases neg with
  | false =>
    have hm1 : q = m := by rw [hmm.out]; simp
    subst hm1
    have hn : (decide (a < 0) = true ∧ decide (b < 0) = true) ∨ (decide (a < 0) = false ∧ decide (b < 0) = false) := by
      have := hng.out
      unfold Pl.ng at this
      cases h1 : decide (a < 0) <;> cases h2 : decide (b < 0) <;> simp [h1, h2] at this ⊢
    rcases hn with ⟨ha0, hb0⟩ | ⟨ha0, hb0⟩
    all_goals
      go_enter Try.func37, Try.ntmps37
      go_wp2_with fail
      refine (fsize_as a A hA _ ha ha').mono ?_
      rintro e w' ⟨rfl, rfl⟩
      go_wp2_with fail
      refine (fsize_as b B hB _ hb hb').mono ?_
      rintro e w' ⟨rfl, rfl⟩
      go_wp2_with fail
      refine (mul64_as A B hi lo hm lA lB _).mono ?_
      rintro e w' ⟨rfl, rfl⟩
      go_wp2_with fail
      refine (fsize_as c C hC _ (by omega) hc').mono ?_
      rintro e w' ⟨rfl, rfl⟩
      go_wp2_with fail
      refine (fsize_as c C hC _ (by omega) hc').mono ?_
      rintro e w' ⟨rfl, rfl⟩
      go_wp2_with fail
      refine (div64_as hi lo C q r hq llo lC h _).mono ?_
      rintro e w' ⟨rfl, nd, rfl⟩
      go_wp2_with fail
      refine (fsigned_any q false lq _).mono ?_
      rintro e w' ⟨rfl, rfl⟩
      go_wp2
      go_ret2
      exact ⟨rfl, nd, rfl⟩
  | true =>
    have hn : (decide (a < 0) = true ∧ decide (b < 0) = false) ∨ (decide (a < 0) = false ∧ decide (b < 0) = true) := by
      have := hng.out
      unfold Pl.ng at this
      cases h1 : decide (a < 0) <;> cases h2 : decide (b < 0) <;> simp [h1, h2] at this ⊢
    by_cases hr : r = 0
    · have hm1 : q = m := by rw [hmm.out]; simp [hr]
      subst hm1
      have t1 : ((r : Int) != 0) = false := by simp [hr]
      clear hr
      rcases hn with ⟨ha0, hb0⟩ | ⟨ha0, hb0⟩
      all_goals
        go_enter Try.func37, Try.ntmps37
        go_wp2_with fail
        refine (fsize_as a A hA _ ha ha').mono ?_
        rintro e w' ⟨rfl, rfl⟩
        go_wp2_with fail
        refine (fsize_as b B hB _ hb hb').mono ?_
        rintro e w' ⟨rfl, rfl⟩
        go_wp2_with fail
        refine (mul64_as A B hi lo hm lA lB _).mono ?_
        rintro e w' ⟨rfl, rfl⟩
        go_wp2_with fail
        refine (fsize_as c C hC _ (by omega) hc').mono ?_
        rintro e w' ⟨rfl, rfl⟩
        go_wp2_with fail
        refine (fsize_as c C hC _ (by omega) hc').mono ?_
        rintro e w' ⟨rfl, rfl⟩
        go_wp2_with fail
        refine (div64_as hi lo C q r hq llo lC h _).mono ?_
        rintro e w' ⟨rfl, nd, rfl⟩
        go_wp2_with fail
        refine (fsigned_any q true lq _).mono ?_
        rintro e w' ⟨rfl, rfl⟩
        go_wp2
        go_ret2
        exact ⟨rfl, nd, rfl⟩
    · have hm1 : m = q + 1 := by rw [hmm.out]; simp [hr]
      have t1 : ((r : Int) != 0) = true := by simp; omega
      clear hr
      by_cases hqm : q = 18446744073709551615
      · have t2 : ((q : Int) == 18446744073709551615) = true := by simp; omega
        have e : Pl.fit (Pl.sg m true) = false := by rw [Pl.sg_fit, hm1, hqm]; decide
        have e1 : Pl.kept (Pl.sg m true) = 0 := by simp [Pl.kept, e]
        rw [e, e1]
        clear e e1 hm1 hqm
        rcases hn with ⟨ha0, hb0⟩ | ⟨ha0, hb0⟩
        all_goals
          go_enter Try.func37, Try.ntmps37
          go_wp2_with fail
          refine (fsize_as a A hA _ ha ha').mono ?_
          rintro e w' ⟨rfl, rfl⟩
          go_wp2_with fail
          refine (fsize_as b B hB _ hb hb').mono ?_
          rintro e w' ⟨rfl, rfl⟩
          go_wp2_with fail
          refine (mul64_as A B hi lo hm lA lB _).mono ?_
          rintro e w' ⟨rfl, rfl⟩
          go_wp2_with fail
          refine (fsize_as c C hC _ (by omega) hc').mono ?_
          rintro e w' ⟨rfl, rfl⟩
          go_wp2_with fail
          refine (fsize_as c C hC _ (by omega) hc').mono ?_
          rintro e w' ⟨rfl, rfl⟩
          go_wp2_with fail
          refine (div64_as hi lo C q r hq llo lC h _).mono ?_
          rintro e w' ⟨rfl, nd, rfl⟩
          go_wp2_with fail
          go_ret2
          exact ⟨rfl, nd, rfl⟩
      · have t2 : ((q : Int) == 18446744073709551615) = false := by simp; omega
        have kw : IntKind.u64.wrap ((q : Int) + 1) = (m : Int) := by rw [IntKind.wrap_u64]; omega
        have hF := Lib.hid (fun W => fsigned_any m true (by omega) W)
        clear hqm hm1 hmm lq
        rcases hn with ⟨ha0, hb0⟩ | ⟨ha0, hb0⟩
        all_goals
          go_enter Try.func37, Try.ntmps37
          go_wp2_with fail
          refine (fsize_as a A hA _ ha ha').mono ?_
          rintro e w' ⟨rfl, rfl⟩
          go_wp2_with fail
          refine (fsize_as b B hB _ hb hb').mono ?_
          rintro e w' ⟨rfl, rfl⟩
          go_wp2_with fail
          refine (mul64_as A B hi lo hm lA lB _).mono ?_
          rintro e w' ⟨rfl, rfl⟩
          go_wp2_with fail
          refine (fsize_as c C hC _ (by omega) hc').mono ?_
          rintro e w' ⟨rfl, rfl⟩
          go_wp2_with fail
          refine (fsize_as c C hC _ (by omega) hc').mono ?_
          rintro e w' ⟨rfl, rfl⟩
          go_wp2_with fail
          refine (div64_as hi lo C q r hq llo lC h _).mono ?_
          rintro e w' ⟨rfl, nd, rfl⟩
          go_wp2_with fail
          refine (hF.out _).mono ?_
          rintro e w' ⟨rfl, rfl⟩
          go_wp2
          go_ret2
          exact ⟨rfl, nd, rfl⟩

theorem fmuldiv_any (a b c : Int) (ha : -9223372036854775808 ≤ a) (ha' : a ≤ 9223372036854775807) (hb : -9223372036854775808 ≤ b) (hb' : b ≤ 9223372036854775807) (hc : 0 < c) (hc' : c ≤ 9223372036854775807) (w : World) :
    Calls Try.prog 37 #[.int .i64 a, .int .i64 b, .int .i64 c] w fun e w' => e = .returned (.tuple #[.int .i64 (Pl.kept (Pl.md a b c)), .bool (Pl.fit (Pl.md a b c))]) ∧ ∃ n, w' = w.drewN n := by
  have lA : a.natAbs < 18446744073709551616 := by omega
  have lB : b.natAbs < 18446744073709551616 := by omega
  have lC : c.natAbs < 18446744073709551616 := by omega
  have e0 := Nat.div_add_mod (a.natAbs * b.natAbs) 18446744073709551616
  by_cases h : c.natAbs ≤ a.natAbs * b.natAbs / 18446744073709551616
  · have e := Pl.md_big a b c hc h
    have e1 : Pl.kept (Pl.md a b c) = 0 := by simp [Pl.kept, e]
    rw [e, e1]
    exact fmd_big a b c _ _ _ _ _ ha ha' hb hb' hc hc' rfl rfl rfl lA lB ⟨rfl, rfl⟩ (by omega) w
  · have hm := Pl.md_of a b c hc
    have eN : a.natAbs * b.natAbs / 18446744073709551616 * 18446744073709551616 + a.natAbs * b.natAbs % 18446744073709551616 = a.natAbs * b.natAbs := by omega
    have lq : a.natAbs * b.natAbs / c.natAbs < 18446744073709551616 := by
      rw [Nat.div_lt_iff_lt_mul (by omega)]
      have hl := Nat.mod_lt (a.natAbs * b.natAbs) (show 0 < 18446744073709551616 by omega)
      have h2 := Nat.mul_le_mul_right 18446744073709551616 (show a.natAbs * b.natAbs / 18446744073709551616 + 1 ≤ c.natAbs by omega)
      rw [Nat.mul_comm 18446744073709551616 c.natAbs]
      omega
    have core := fmd_core a b c _ _ _ (a.natAbs * b.natAbs / 18446744073709551616) (a.natAbs * b.natAbs % 18446744073709551616) (a.natAbs * b.natAbs / c.natAbs) (a.natAbs * b.natAbs % c.natAbs) _ (Pl.ng a b) ha ha' hb hb' hc hc' rfl rfl rfl lA lB lC ⟨rfl, rfl⟩
      (Nat.mod_lt _ (by omega)) (by omega) ⟨by rw [eN], by rw [eN]⟩ lq rfl rfl w
    have em : Pl.md a b c = Pl.sg (if Pl.ng a b = true ∧ a.natAbs * b.natAbs % c.natAbs ≠ 0 then a.natAbs * b.natAbs / c.natAbs + 1 else a.natAbs * b.natAbs / c.natAbs) (Pl.ng a b) := by
      rw [hm]
      cases Pl.ng a b with
      | false => simp [Pl.sg]
      | true =>
        by_cases hr : a.natAbs * b.natAbs % c.natAbs = 0
        · simp [hr, Pl.sg]
        · simp [hr, Pl.sg]; omega
    rw [em]
    exact core

#print axioms fmuldiv_any
end Go.Proofs.Ytnlfkafebbfenaa
