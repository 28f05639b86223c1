/- The contract of the reference's MulDiv at a positive divisor. -/
import Derived.Test.YtnlfkafebbfenaaRef
namespace Go.Proofs.Ytnlfkafebbfenaa
open Go.RowKit Go.Lib

theorem roll1 {q1 q0 n1 m : Nat} (h1 : q1 * 18446744073709551616 + (q0 + 1) = m) (h2 : q0 = 18446744073709551615) (h3 : q1 + 1 = n1) : n1 * 18446744073709551616 + 0 = m := by rw [← h1, h2, ← h3, Nat.add_zero, Nat.add_mul, Nat.one_mul]
theorem roll2 {q1 q0 n0 m : Nat} (h1 : q1 * 18446744073709551616 + (q0 + 1) = m) (h3 : q0 + 1 = n0) : q1 * 18446744073709551616 + n0 = m := by omega

set_option maxRecDepth 100000 in
set_option maxHeartbeats 1000000 in
theorem rmd_core (a b c : Int) (A B C hi lo q1 q0 r m : Nat) (neg : Bool) (ha : -9223372036854775808 ≤ a) (ha' : a ≤ 9223372036854775807) (hb : -9223372036854775808 ≤ b) (hb' : b ≤ 9223372036854775807) (hc : 0 < c) (hc' : c ≤ 9223372036854775807)
    (hA : Hid (a.natAbs = A)) (hB : Hid (b.natAbs = B)) (hC : Hid (c.natAbs = C)) (lA : A < 18446744073709551616) (lB : B < 18446744073709551616) (lC0 : 0 < C) (lC : C < 18446744073709551616) (hm : Hid (A * B / 18446744073709551616 = hi ∧ A * B % 18446744073709551616 = lo))
    (lhi : hi < 18446744073709551616) (llo : lo < 18446744073709551616) (hq : Hid ((hi * 18446744073709551616 + lo) / C / 18446744073709551616 = q1 ∧ (hi * 18446744073709551616 + lo) / C % 18446744073709551616 = q0 ∧ (hi * 18446744073709551616 + lo) % C = r))
    (lq1 : Hid (q1 < 9223372036854775808)) (lq0 : Hid (q0 < 18446744073709551616))
    (hng : Hid (Pl.ng a b = neg)) (hmm : Hid (m = if neg = true ∧ r ≠ 0 then q1 * 18446744073709551616 + (q0 + 1) else q1 * 18446744073709551616 + q0)) (w : World) :
    Calls Try.prog 38 #[.int .i64 a, .int .i64 b, .int .i64 c] w fun e w' => e = .returned (.tuple #[.int .i64 (Pl.kept (Pl.sg m neg)), .bool (Pl.fit (Pl.sg m neg))]) ∧ w = w' := by
  have hcd : decide (c < 0) = false := by simp; omega
  have hcz : (c == 0) = false := by simp; omega
  cases neg with
  | false =>
    have hm1 : q1 * 18446744073709551616 + q0 = m := by rw [hmm.out]; simp
    have hF := Lib.hid (fun W => rsigned_as false q1 q0 m hm1 (by have := lq1.out; omega) lq0.out W)
    clear hm1
    have hn : (decide (a < 0) = true ∧ decide (b < 0) = true) ∨ (decide (a < 0) = false ∧ decide (b < 0) = false) := by
      have := hng.out
      unfold Pl.ng at this
      cases h1 : decide (a < 0) <;> cases h2 : decide (b < 0) <;> simp [h1, h2] at this ⊢
    rcases hn with ⟨ha0, hb0⟩ | ⟨ha0, hb0⟩
    all_goals
      go_enter Try.func38, Try.ntmps38
      go_wp2_with fail
      refine (rsize_as a A hA _ ha ha').mono ?_
      rintro e w' ⟨rfl, rfl⟩
      go_wp2_with fail
      refine (rsize_as b B hB _ hb hb').mono ?_
      rintro e w' ⟨rfl, rfl⟩
      go_wp2_with fail
      refine (product_as A B hi lo hm lA lB _).mono ?_
      rintro e w' ⟨rfl, rfl⟩
      go_wp2_with fail
      refine (rsize_as c C hC _ (by omega) hc').mono ?_
      rintro e w' ⟨rfl, rfl⟩
      go_wp2_with fail
      refine (rdivide_as hi lo C q1 q0 r hq lhi llo lC0 lC _).mono ?_
      rintro e w' ⟨rfl, rfl⟩
      go_wp2_with fail
      refine (hF.out _).mono ?_
      rintro e w' ⟨rfl, rfl⟩
      go_wp2
      go_ret2
      exact ⟨rfl, rfl⟩
  | true =>
    have hn : (decide (a < 0) = true ∧ decide (b < 0) = false) ∨ (decide (a < 0) = false ∧ decide (b < 0) = true) := by
      have := hng.out
      unfold Pl.ng at this
      cases h1 : decide (a < 0) <;> cases h2 : decide (b < 0) <;> simp [h1, h2] at this ⊢
    by_cases hr : r = 0
    · have hm1 : q1 * 18446744073709551616 + q0 = m := by rw [hmm.out]; simp [hr]
      have hF := Lib.hid (fun W => rsigned_as true q1 q0 m hm1 (by have := lq1.out; omega) lq0.out W)
      clear hm1
      have t1 : ¬ (0 : Int) < (r : Int) := by omega
      clear hr
      rcases hn with ⟨ha0, hb0⟩ | ⟨ha0, hb0⟩
      all_goals
        go_enter Try.func38, Try.ntmps38
        go_wp2_with fail
        refine (rsize_as a A hA _ ha ha').mono ?_
        rintro e w' ⟨rfl, rfl⟩
        go_wp2_with fail
        refine (rsize_as b B hB _ hb hb').mono ?_
        rintro e w' ⟨rfl, rfl⟩
        go_wp2_with fail
        refine (product_as A B hi lo hm lA lB _).mono ?_
        rintro e w' ⟨rfl, rfl⟩
        go_wp2_with fail
        refine (rsize_as c C hC _ (by omega) hc').mono ?_
        rintro e w' ⟨rfl, rfl⟩
        go_wp2_with fail
        refine (rdivide_as hi lo C q1 q0 r hq lhi llo lC0 lC _).mono ?_
        rintro e w' ⟨rfl, rfl⟩
        go_wp2_with fail
        refine (hF.out _).mono ?_
        rintro e w' ⟨rfl, rfl⟩
        go_wp2
        go_ret2
        exact ⟨rfl, rfl⟩
    · have hm1 : q1 * 18446744073709551616 + (q0 + 1) = m := by rw [hmm.out]; simp [hr]
      have t1 : (0 : Int) < (r : Int) := by omega
      clear hr
      have l1 := lq1.out
      have l0 := lq0.out
      by_cases hqm : q0 = 18446744073709551615
      · have kw : IntKind.u64.wrap ((q0 : Int) + 1) = 0 := by rw [IntKind.wrap_u64]; omega
        obtain ⟨n1, hn1⟩ : ∃ n, q1 + 1 = n := ⟨_, rfl⟩
        have kv : IntKind.u64.wrap ((q1 : Int) + 1) = (n1 : Int) := by rw [IntKind.wrap_u64]; omega
        have hx := roll1 hm1 hqm hn1
        have hF := Lib.hid (fun W => rsigned_as true n1 0 m (Lib.hid hx) (by omega) (by omega) W)
        clear hx
        clear hm1 hqm hn1 l0 l1
        rcases hn with ⟨ha0, hb0⟩ | ⟨ha0, hb0⟩
        all_goals
          go_enter Try.func38, Try.ntmps38
          go_wp2_with fail
          refine (rsize_as a A hA _ ha ha').mono ?_
          rintro e w' ⟨rfl, rfl⟩
          go_wp2_with fail
          refine (rsize_as b B hB _ hb hb').mono ?_
          rintro e w' ⟨rfl, rfl⟩
          go_wp2_with fail
          refine (product_as A B hi lo hm lA lB _).mono ?_
          rintro e w' ⟨rfl, rfl⟩
          go_wp2_with fail
          refine (rsize_as c C hC _ (by omega) hc').mono ?_
          rintro e w' ⟨rfl, rfl⟩
          go_wp2_with fail
          refine (rdivide_as hi lo C q1 q0 r hq lhi llo lC0 lC _).mono ?_
          rintro e w' ⟨rfl, rfl⟩
          go_wp2_with fail
          refine (hF.out _).mono ?_
          rintro e w' ⟨rfl, rfl⟩
          go_wp2
          go_ret2
          exact ⟨rfl, rfl⟩
      · obtain ⟨n0, hn0⟩ : ∃ n, q0 + 1 = n := ⟨_, rfl⟩
        have kv : IntKind.u64.wrap ((q0 : Int) + 1) = (n0 : Int) := by rw [IntKind.wrap_u64]; omega
        have kz : ((n0 : Int) == 0) = false := by simp; omega
        have hx := roll2 hm1 hn0
        have hF := Lib.hid (fun W => rsigned_as true q1 n0 m (Lib.hid hx) (by omega) (by omega) W)
        clear hx
        clear hm1 hqm hn0 l0 l1
        rcases hn with ⟨ha0, hb0⟩ | ⟨ha0, hb0⟩
        all_goals
          go_enter Try.func38, Try.ntmps38
          go_wp2_with fail
          refine (rsize_as a A hA _ ha ha').mono ?_
          rintro e w' ⟨rfl, rfl⟩
          go_wp2_with fail
          refine (rsize_as b B hB _ hb hb').mono ?_
          rintro e w' ⟨rfl, rfl⟩
          go_wp2_with fail
          refine (product_as A B hi lo hm lA lB _).mono ?_
          rintro e w' ⟨rfl, rfl⟩
          go_wp2_with fail
          refine (rsize_as c C hC _ (by omega) hc').mono ?_
          rintro e w' ⟨rfl, rfl⟩
          go_wp2_with fail
          refine (rdivide_as hi lo C q1 q0 r hq lhi llo lC0 lC _).mono ?_
          rintro e w' ⟨rfl, rfl⟩
          go_wp2_with fail
          refine (hF.out _).mono ?_
          rintro e w' ⟨rfl, rfl⟩
          go_wp2
          go_ret2
          exact ⟨rfl, rfl⟩

theorem rmuldiv_any (a b c : Int) (ha : -9223372036854775808 ≤ a) (ha' : a ≤ 9223372036854775807) (hb : -9223372036854775808 ≤ b) (hb' : b ≤ 9223372036854775807) (hc : 0 < c) (hc' : c ≤ 9223372036854775807) (w : World) :
    Calls Try.prog 38 #[.int .i64 a, .int .i64 b, .int .i64 c] w fun e w' => e = .returned (.tuple #[.int .i64 (Pl.kept (Pl.md a b c)), .bool (Pl.fit (Pl.md a b c))]) ∧ w = w' := by
  have lA : a.natAbs ≤ 9223372036854775808 := by omega
  have lB : b.natAbs ≤ 9223372036854775808 := by omega
  have lC : c.natAbs < 18446744073709551616 := by omega
  have lC0 : 0 < c.natAbs := by omega
  have lP : a.natAbs * b.natAbs ≤ 9223372036854775808 * 9223372036854775808 := Nat.mul_le_mul lA lB
  have hm := Pl.md_of a b c hc
  obtain ⟨P, hP⟩ : ∃ P, a.natAbs * b.natAbs = P := ⟨_, rfl⟩
  rw [hP] at lP hm
  have eN : P / 18446744073709551616 * 18446744073709551616 + P % 18446744073709551616 = P := by omega
  have lQ : P / c.natAbs ≤ P := Nat.div_le_self _ _
  have g1 : P / c.natAbs / 18446744073709551616 < 9223372036854775808 := by omega
  have g2 : P / c.natAbs % 18446744073709551616 < 18446744073709551616 := by omega
  have core := rmd_core a b c _ _ _ (P / 18446744073709551616) (P % 18446744073709551616) (P / c.natAbs / 18446744073709551616) (P / c.natAbs % 18446744073709551616) (P % c.natAbs) _ (Pl.ng a b) ha ha' hb hb' hc hc' rfl rfl rfl (by omega) (by omega) lC0 lC ⟨by rw [hP], by rw [hP]⟩
    (by omega) (by omega) ⟨by rw [eN], by rw [eN], by rw [eN]⟩ (Lib.hid g1) (Lib.hid g2) rfl rfl w
  obtain ⟨Q, hQ⟩ : ∃ Q, P / c.natAbs = Q := ⟨_, rfl⟩
  obtain ⟨r, hr⟩ : ∃ r, P % c.natAbs = r := ⟨_, rfl⟩
  rw [hQ, hr] at hm core
  have eQ : Q / 18446744073709551616 * 18446744073709551616 + Q % 18446744073709551616 = Q := Nat.div_add_mod' Q _
  have eQ' : Q / 18446744073709551616 * 18446744073709551616 + (Q % 18446744073709551616 + 1) = Q + 1 := by rw [← Nat.add_assoc, eQ]
  rw [eQ', eQ] at core
  have em : Pl.md a b c = Pl.sg (if Pl.ng a b = true ∧ r ≠ 0 then Q + 1 else Q) (Pl.ng a b) := by
    rw [hm]
    cases Pl.ng a b with
    | false => simp [Pl.sg]
    | true =>
      by_cases h0 : r = 0
      · simp [h0, Pl.sg]
      · simp [h0, Pl.sg]; omega
  rw [em]
  exact core

#print axioms rmuldiv_any
end Go.Proofs.Ytnlfkafebbfenaa
