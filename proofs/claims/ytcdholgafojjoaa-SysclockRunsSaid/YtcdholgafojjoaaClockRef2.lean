/- Contracts of the reference's sign, part, length, shown. -/
import Derived.Test.YtcdholgafojjoaaClockRef
import Derived.Deep.DeepCutAuto
namespace Go.Proofs.Ytcdholgafojjoaa
namespace Pl
theorem floor_tdiv10 {a b : Int} (hb : 0 < b) : a / b = if a.tmod b < 0 then a.tdiv b - 1 else a.tdiv b := by
  rcases Int.lt_or_le a 0 with h | h
  · obtain ⟨n, rfl⟩ : ∃ n, a = -n := ⟨-a, by omega⟩
    rw [Int.neg_tdiv, Int.neg_tmod, Int.tdiv_eq_ediv_of_nonneg (by omega), Int.tmod_eq_emod_of_nonneg (by omega)]
    have e := Int.mul_ediv_add_emod n b
    have r1 := Int.emod_nonneg n (show b ≠ 0 by omega)
    have r2 := Int.emod_lt_of_pos n hb
    generalize n / b = Q at *
    generalize n % b = R at *
    by_cases c : R = 0
    · rw [if_neg (by omega)]
      refine ((Int.ediv_emod_unique (r := 0) hb).2 ⟨?_, by omega, hb⟩).1
      rw [Int.mul_neg]
      omega
    · rw [if_pos (by omega)]
      refine ((Int.ediv_emod_unique (r := b - R) hb).2 ⟨?_, by omega, by omega⟩).1
      rw [Int.mul_sub, Int.mul_neg]
      omega
  · rw [Int.tdiv_eq_ediv_of_nonneg h, Int.tmod_eq_emod_of_nonneg h]
    rw [if_neg (by have := Int.emod_nonneg a (show b ≠ 0 by omega); omega)]
def Good (e p : Int) : Prop := 0 ≤ e ∧ e ≤ 9007199254740992 ∧ -1000000 ≤ p ∧ p ≤ 1000000
/-- the reference's part, in its own steps -/
theorem part_ref {e p : Int} (h : Good e p) : ∃ Q R M N Z V, e.tdiv 1000000000 = Q ∧ e.tmod 1000000000 = R ∧ R * p = M ∧ M.tdiv 1000000000 = N ∧ M.tmod 1000000000 = Z ∧ Q * p = V ∧
    (0 ≤ Q ∧ Q ≤ 9007200) ∧ (0 ≤ R ∧ R < 1000000000) ∧ (-1000000000000000 ≤ M ∧ M ≤ 1000000000000000) ∧ (-1000000000000000 ≤ N ∧ N ≤ 1000000000000000) ∧ (-1000000000 ≤ Z ∧ Z ≤ 1000000000) ∧ (-9007200000000 ≤ V ∧ V ≤ 9007200000000) ∧ part e p = V + (if Z < 0 then N - 1 else N) := by
  obtain ⟨h1, h2, h3, h4⟩ := h
  refine ⟨_, _, _, _, _, _, rfl, rfl, rfl, rfl, rfl, rfl, ?_⟩
  rw [Int.tdiv_eq_ediv_of_nonneg h1, Int.tmod_eq_emod_of_nonneg h1]
  have q0 : 0 ≤ e / 1000000000 := Int.ediv_nonneg h1 (by omega)
  have q1 : e / 1000000000 ≤ 9007200 := by omega
  have r0 := Int.emod_nonneg e (show (1000000000 : Int) ≠ 0 by omega)
  have r1 := Int.emod_lt_of_pos e (show (0 : Int) < 1000000000 by omega)
  have ee := Int.mul_ediv_add_emod e 1000000000
  generalize e / 1000000000 = Q at *
  generalize e % 1000000000 = R at *
  have m1 := Int.mul_le_mul_of_nonneg_left h3 r0
  have m2 := Int.mul_le_mul_of_nonneg_left h4 r0
  have v1 := Int.mul_le_mul_of_nonneg_left h3 q0
  have v2 := Int.mul_le_mul_of_nonneg_left h4 q0
  have f := floor_tdiv10 (a := R * p) (b := 1000000000) (by omega)
  have pe : part e p = Q * p + R * p / 1000000000 := by
    unfold part md
    rw [← ee, Int.add_mul, Int.mul_assoc, Int.add_comm, Int.add_mul_ediv_left _ _ (by omega), Int.add_comm]
  obtain ⟨M, hM⟩ : ∃ M, R * p = M := ⟨_, rfl⟩
  rw [hM] at m1 m2 f pe ⊢
  have tq : (0 ≤ M → 0 ≤ M.tdiv 1000000000 ∧ M.tdiv 1000000000 ≤ M) ∧ (M ≤ 0 → M ≤ M.tdiv 1000000000 ∧ M.tdiv 1000000000 ≤ 0) := by
    constructor
    · intro h
      rw [Int.tdiv_eq_ediv_of_nonneg h]
      exact ⟨Int.ediv_nonneg h (by omega), Int.ediv_le_self _ h⟩
    · intro h
      obtain ⟨q, rfl⟩ : ∃ q, M = -q := ⟨-M, by omega⟩
      rw [Int.neg_tdiv, Int.tdiv_eq_ediv_of_nonneg (by omega)]
      have := Int.ediv_nonneg (show 0 ≤ q by omega) (show (0 : Int) ≤ 1000000000 by omega)
      have := Int.ediv_le_self 1000000000 (show 0 ≤ q by omega)
      omega
  have tr : -1000000000 ≤ M.tmod 1000000000 ∧ M.tmod 1000000000 ≤ 1000000000 := by
    rcases Int.lt_or_le M 0 with h | h
    · obtain ⟨n, rfl⟩ : ∃ n, M = -n := ⟨-M, by omega⟩
      rw [Int.neg_tmod, Int.tmod_eq_emod_of_nonneg (by omega)]
      omega
    · rw [Int.tmod_eq_emod_of_nonneg h]
      omega
  refine ⟨⟨q0, q1⟩, ⟨r0, r1⟩, ⟨by omega, by omega⟩, ?_, tr, ⟨by omega, by omega⟩, by rw [pe, f]⟩
  rcases Int.le_total 0 M with q | q
  · have := tq.1 q; omega
  · have := tq.2 q; omega
/-- the reference's length -/
def rlen (s : CS) : Int := if s.left = 0 then 0 else if 10000000 < (max s.left (-s.left)) / s.rate then 1152921504606846976 else (max s.left (-s.left)) / s.rate * 1000000000 + ((max s.left (-s.left)) % s.rate * 1000000000 + s.rate - 1) / s.rate
theorem slew_q {l t : Int} (hl : 0 ≤ l) (ht : 0 < t) : -(-l * 1000000000 / t) = l / t * 1000000000 + (l % t * 1000000000 + t - 1) / t := by
  have e := Int.mul_ediv_add_emod l t
  have c1 := Int.mul_ediv_self_le (x := l % t * 1000000000 + t - 1) (k := t) (by omega)
  have c2 := Int.lt_mul_ediv_self_add (x := l % t * 1000000000 + t - 1) ht
  generalize (l % t * 1000000000 + t - 1) / t = C at *
  generalize l / t = q at *
  generalize l % t = r at *
  have k : -l * 1000000000 / t = -(q * 1000000000 + C) := by
    refine ((Int.ediv_emod_unique (r := t * C - r * 1000000000) ht).2 ⟨?_, by omega, by omega⟩).1
    rw [Int.mul_neg, Int.mul_add, ← Int.mul_assoc, ← e]
    rw [Int.neg_mul, Int.add_mul]
    omega
  omega
theorem rlen_min {s : CS} {e : Int} (h : s.ok = true) (h0 : 0 ≤ e) (h1 : e ≤ 9007199254740992) : min e (rlen s) = min e (slewLen s) := by
  obtain ⟨_, _, h3, _, h5, h6, h7, _⟩ := CS.ok_iff.1 h
  unfold rlen slewLen md
  by_cases c : s.left = 0
  · rw [if_pos c, if_pos c]
  · rw [if_neg c, if_neg c]
    have hr : 0 < s.rate := by omega
    have k := slew_q (l := max s.left (-s.left)) (t := s.rate) (by omega) hr
    rw [show min s.left (-s.left) = -max s.left (-s.left) by omega, k]
    by_cases c2 : 10000000 < (max s.left (-s.left)) / s.rate
    · rw [if_pos c2]
      have r0 := Int.emod_nonneg (max s.left (-s.left)) (show s.rate ≠ 0 by omega)
      have := Int.ediv_nonneg (show 0 ≤ (max s.left (-s.left)) % s.rate * 1000000000 + s.rate - 1 by omega) (show 0 ≤ s.rate by omega)
      omega
    · rw [if_neg c2]
theorem rshown_eq {s : CS} {e T : Int} (h : s.ok = true) (h0 : 0 ≤ e) (h1 : e ≤ 9007199254740992) (hT : min e (rlen s) = T) : shown s e = s.time + T + part T (fast s) + e - T + part (e - T) s.ppb := by
  rw [rlen_min h h0 h1] at hT
  have hl := slewLen_pos h
  unfold shown
  by_cases c : slewLen s < e
  · rw [if_pos c]
    obtain rfl : T = slewLen s := by omega
    omega
  · rw [if_neg c]
    obtain rfl : T = e := by omega
    rw [show T - T = 0 by omega, part_zero]
    omega
end Pl
open Go.RowKit Go.Lib

theorem rpart_any (e p : Int) (h : Pl.Good e p) (w : World) : Calls Try.prog 45 #[.int .i64 e, .int .i64 p] w fun x w' => x = .returned (.int .i64 (Pl.part e p)) ∧ w = w' := by
  obtain ⟨Q, R, M, N, Z, V, hQ, hR, hM, hN, hZ, hV, ⟨q1, q2⟩, ⟨r1, r2⟩, ⟨m1, m2⟩, ⟨n1, n2⟩, ⟨z1, z2⟩, ⟨v1, v2⟩, hp⟩ := Pl.part_ref h
  rw [hp]
  have kw1 : IntKind.i64.wrap (e.tdiv 1000000000) = e.tdiv 1000000000 := IntWalk.i64_in _ (by rw [hQ]; omega)
  have kw2 : IntKind.i64.wrap (e.tmod 1000000000) = e.tmod 1000000000 := IntWalk.i64_in _ (by rw [hR]; omega)
  have kw3 : IntKind.i64.wrap M = M := IntWalk.i64_in _ (by omega)
  have kw4 : IntKind.i64.wrap (M.tdiv 1000000000) = M.tdiv 1000000000 := IntWalk.i64_in _ (by rw [hN]; omega)
  have kw5 : IntKind.i64.wrap (M.tmod 1000000000) = M.tmod 1000000000 := IntWalk.i64_in _ (by rw [hZ]; omega)
  have kw6 : IntKind.i64.wrap V = V := IntWalk.i64_in _ (by omega)
  have kw7 : IntKind.i64.wrap (N - 1) = N - 1 := IntWalk.i64_in _ (by omega)
  have kw8 : IntKind.i64.wrap (V + (N - 1)) = V + (N - 1) := IntWalk.i64_in _ (by omega)
  have kw9 : IntKind.i64.wrap (V + N) = V + N := IntWalk.i64_in _ (by omega)
  have e0 : 0 ≤ e := h.1
  have e1 : e ≤ 9007199254740992 := h.2.1
  clear hp h
  by_cases c : Z < 0
  · rw [if_pos c]
    have t : decide (Z < 0) = true := by simp [c]
    go_enter Try.func45, Try.ntmps45
    go_wp2
    go_ret
    exact ⟨rfl, rfl⟩
  · rw [if_neg c]
    have t : decide (Z < 0) = false := by simp; omega
    go_enter Try.func45, Try.ntmps45
    go_wp2
    go_ret
    exact ⟨rfl, rfl⟩
theorem rsign_any (n : Int) (w : World) : Calls Try.prog 46 #[.int .i64 n] w fun x w' => x = .returned (.int .i64 (if 0 < n then 1 else if n < 0 then -1 else 0)) ∧ w = w' := by
  by_cases c : 0 < n
  · rw [if_pos c]
    go_enter Try.func46, Try.ntmps46
    go_wp2
    go_ret
    exact ⟨rfl, rfl⟩
  · rw [if_neg c]
    by_cases c2 : n < 0
    · rw [if_pos c2]
      go_enter Try.func46, Try.ntmps46
      go_wp2
      go_ret
      exact ⟨rfl, rfl⟩
    · rw [if_neg c2]
      go_enter Try.func46, Try.ntmps46
      go_wp2
      go_ret
      exact ⟨rfl, rfl⟩
end Go.Proofs.Ytcdholgafojjoaa
