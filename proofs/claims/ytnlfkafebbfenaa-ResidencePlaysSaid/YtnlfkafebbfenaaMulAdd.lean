/- Contracts of fixed's Add and Mul and of the reference's. -/
import Derived.Test.YtnlfkafebbfenaaFix
import Derived.Test.YtnlfkafebbfenaaRef
namespace Go.Proofs.Ytnlfkafebbfenaa
namespace Pl
theorem mul_sg (a b : Int) : sg (a.natAbs * b.natAbs) (ng a b) = a * b := by
  have h := sz_mul a b
  unfold sg ng
  rw [h]
  split <;> omega
theorem nat_bd {a : Int} (h : -9223372036854775808 ≤ a) (h2 : a ≤ 9223372036854775807) : a.natAbs < 18446744073709551616 := by omega
theorem sg_over {hi lo : Nat} (neg : Bool) (h : 0 < hi) : fit (sg (hi * 18446744073709551616 + lo) neg) = false := by
  rw [sg_fit]
  cases neg <;> simp <;> omega
theorem kept_no {n : Int} (h : fit n = false) : kept n = 0 := by simp [kept, h]
end Pl
open Go.RowKit Go.Lib

theorem fadd_any (a b : Int) (h1 : -9223372036854775808 ≤ a) (h2 : a ≤ 9223372036854775807) (h3 : -9223372036854775808 ≤ b) (h4 : b ≤ 9223372036854775807) (w : World) :
    Calls Try.prog 60 #[.int .i64 a, .int .i64 b] w fun e w' => e = .returned (.tuple #[.int .i64 (Pl.kept (a + b)), .bool (Pl.fit (a + b))]) ∧ w = w' := by
  cases hf : Pl.fit (a + b) with
  | true =>
    rw [Pl.kept_yes hf]
    have hf' := Pl.fit_iff.1 hf
    clear hf
    rcases Int.lt_or_le a 0 with s1 | s1 <;> rcases Int.lt_or_le b 0 with s2 | s2
    all_goals (go_enter Try.func60, Try.ntmps60)
    all_goals (go_wp2)
    all_goals (first | (exfalso; simp at *; omega) | (refine bodyPost_ret (v := .tuple #[.int .i64 (a + b), .bool true]) (by simp [results, Try.results60, go_sem]) rfl ⟨rfl, rfl⟩))
  | false =>
    have hf' := Pl.fit_no.1 hf
    have e : Pl.kept (a + b) = 0 := by simp [Pl.kept, hf]
    rw [e]
    clear hf e
    rcases Int.lt_or_le a 0 with s1 | s1 <;> rcases Int.lt_or_le b 0 with s2 | s2
    all_goals (first | (exfalso; omega) | skip)
    · obtain ⟨X, hX⟩ : ∃ X, a + b + 18446744073709551616 = X := ⟨_, rfl⟩
      have hw : wrap64 (a + b) = X := by rw [← hX]; unfold wrap64; omega
      have hX1 : 0 ≤ X := by omega
      go_enter Try.func60, Try.ntmps60
      go_wp2
      all_goals first | (exfalso; rename_i h; simp at h; omega) | (refine bodyPost_ret (v := .tuple #[.int .i64 0, .bool false]) (by simp [results, Try.results60, go_sem]) rfl ⟨rfl, rfl⟩)
    · obtain ⟨X, hX⟩ : ∃ X, a + b - 18446744073709551616 = X := ⟨_, rfl⟩
      have hw : wrap64 (a + b) = X := by rw [← hX]; unfold wrap64; omega
      have hX1 : X < 0 := by omega
      go_enter Try.func60, Try.ntmps60
      go_wp2
      all_goals first | (exfalso; rename_i h; simp at h; omega) | (refine bodyPost_ret (v := .tuple #[.int .i64 0, .bool false]) (by simp [results, Try.results60, go_sem]) rfl ⟨rfl, rfl⟩)
theorem radd_any (a b : Int) (h1 : -9223372036854775808 ≤ a) (h2 : a ≤ 9223372036854775807) (h3 : -9223372036854775808 ≤ b) (h4 : b ≤ 9223372036854775807) (w : World) :
    Calls Try.prog 49 #[.int .i64 a, .int .i64 b] w fun e w' => e = .returned (.tuple #[.int .i64 (Pl.kept (a + b)), .bool (Pl.fit (a + b))]) ∧ w = w' := by
  cases hf : Pl.fit (a + b) with
  | true =>
    rw [Pl.kept_yes hf]
    have hf' := Pl.fit_iff.1 hf
    clear hf
    rcases Int.lt_or_le a 0 with s1 | s1 <;> rcases Int.lt_or_le b 0 with s2 | s2
    all_goals (go_enter Try.func49, Try.ntmps49)
    all_goals (go_wp2)
    all_goals (first | (exfalso; simp at *; omega) | (refine bodyPost_ret (v := .tuple #[.int .i64 (a + b), .bool true]) (by simp [results, Try.results49, go_sem]) rfl ⟨rfl, rfl⟩))
  | false =>
    have hf' := Pl.fit_no.1 hf
    have e : Pl.kept (a + b) = 0 := by simp [Pl.kept, hf]
    rw [e]
    clear hf e
    rcases Int.lt_or_le a 0 with s1 | s1 <;> rcases Int.lt_or_le b 0 with s2 | s2
    all_goals (first | (exfalso; omega) | skip)
    · obtain ⟨X, hX⟩ : ∃ X, a + b + 18446744073709551616 = X := ⟨_, rfl⟩
      have hw : wrap64 (a + b) = X := by rw [← hX]; unfold wrap64; omega
      have hX1 : 0 ≤ X := by omega
      go_enter Try.func49, Try.ntmps49
      go_wp2
      all_goals first | (exfalso; rename_i h; simp at h; omega) | (refine bodyPost_ret (v := .tuple #[.int .i64 0, .bool false]) (by simp [results, Try.results49, go_sem]) rfl ⟨rfl, rfl⟩)
    · obtain ⟨X, hX⟩ : ∃ X, a + b - 18446744073709551616 = X := ⟨_, rfl⟩
      have hw : wrap64 (a + b) = X := by rw [← hX]; unfold wrap64; omega
      have hX1 : X < 0 := by omega
      go_enter Try.func49, Try.ntmps49
      go_wp2
      all_goals first | (exfalso; rename_i h; simp at h; omega) | (refine bodyPost_ret (v := .tuple #[.int .i64 0, .bool false]) (by simp [results, Try.results49, go_sem]) rfl ⟨rfl, rfl⟩)

set_option maxRecDepth 100000 in
set_option maxHeartbeats 1000000 in
theorem fmul_core (a b : Int) (A B hi lo m : Nat) (neg : Bool) (ha : -9223372036854775808 ≤ a) (ha' : a ≤ 9223372036854775807) (hb : -9223372036854775808 ≤ b) (hb' : b ≤ 9223372036854775807)
    (hA : Hid (a.natAbs = A)) (hB : Hid (b.natAbs = B)) (lA : A < 18446744073709551616) (lB : B < 18446744073709551616) (hm : Hid (A * B / 18446744073709551616 = hi ∧ A * B % 18446744073709551616 = lo))
    (llo : lo < 18446744073709551616) (hng : Hid (Pl.ng a b = neg)) (hmm : Hid (hi * 18446744073709551616 + lo = m)) (w : World) :
    Calls Try.prog 59 #[.int .i64 a, .int .i64 b] w fun e w' => e = .returned (.tuple #[.int .i64 (Pl.kept (Pl.sg m neg)), .bool (Pl.fit (Pl.sg m neg))]) ∧ w = w' := by
  by_cases h0 : hi = 0
  · obtain rfl : lo = m := by rw [← hmm.out, h0]; omega
    subst h0
    have hn : ∃ x y : Bool, decide (a < 0) = x ∧ decide (b < 0) = y ∧ neg = (x != y) := ⟨_, _, rfl, rfl, hng.out.symm⟩
    obtain ⟨x, y, hx, hy, rfl⟩ := hn
    clear hng hmm
    cases x <;> cases y
    all_goals
      go_enter Try.func59, Try.ntmps59
      go_wp2_with fail
      refine (fsize_as a A hA _ ha ha').mono ?_
      rintro e w' ⟨rfl, rfl⟩
      go_wp2_with fail
      refine (fsize_as b B hB _ hb hb').mono ?_
      rintro e w' ⟨rfl, rfl⟩
      go_wp2_with fail
      refine (mul64_as A B 0 lo hm lA lB _).mono ?_
      rintro e w' ⟨rfl, rfl⟩
      go_wp2_with fail
      refine (fsigned_any lo _ llo _).mono ?_
      rintro e w' ⟨rfl, rfl⟩
      go_wp2
      go_ret2
      exact ⟨rfl, rfl⟩
  · have t1 : ((hi : Int) != 0) = true := by simp [h0]
    have hf := Pl.sg_over (lo := lo) neg (Nat.pos_of_ne_zero h0)
    rw [hmm.out] at hf
    rw [hf, Pl.kept_no hf]
    clear hng hmm h0 hf
    go_enter Try.func59, Try.ntmps59
    go_wp2_with fail
    refine (fsize_as a A hA _ ha ha').mono ?_
    rintro e w' ⟨rfl, rfl⟩
    go_wp2_with fail
    refine (fsize_as b B hB _ hb hb').mono ?_
    rintro e w' ⟨rfl, rfl⟩
    go_wp2_with fail
    refine (mul64_as A B hi lo hm lA lB _).mono ?_
    rintro e w' ⟨rfl, rfl⟩
    go_wp2
    go_ret2
    exact ⟨rfl, rfl⟩
theorem fmul_any (a b : Int) (ha : -9223372036854775808 ≤ a) (ha' : a ≤ 9223372036854775807) (hb : -9223372036854775808 ≤ b) (hb' : b ≤ 9223372036854775807) (w : World) :
    Calls Try.prog 59 #[.int .i64 a, .int .i64 b] w fun e w' => e = .returned (.tuple #[.int .i64 (Pl.kept (a * b)), .bool (Pl.fit (a * b))]) ∧ w = w' := by
  have := fmul_core a b _ _ _ _ _ _ ha ha' hb hb' (Lib.hid rfl) (Lib.hid rfl) (Pl.nat_bd ha ha') (Pl.nat_bd hb hb') (Lib.hid ⟨rfl, rfl⟩) (Nat.mod_lt _ (by omega)) (Lib.hid rfl) (Lib.hid (Nat.div_add_mod' _ _)) w
  rw [Pl.mul_sg] at this
  exact this

set_option maxRecDepth 100000 in
set_option maxHeartbeats 1000000 in
theorem rmul_core (a b : Int) (A B hi lo m : Nat) (neg : Bool) (ha : -9223372036854775808 ≤ a) (ha' : a ≤ 9223372036854775807) (hb : -9223372036854775808 ≤ b) (hb' : b ≤ 9223372036854775807)
    (hA : Hid (a.natAbs = A)) (hB : Hid (b.natAbs = B)) (lA : A < 18446744073709551616) (lB : B < 18446744073709551616) (hm : Hid (A * B / 18446744073709551616 = hi ∧ A * B % 18446744073709551616 = lo))
    (lhi : hi < 18446744073709551616) (llo : lo < 18446744073709551616) (hng : Hid (Pl.ng a b = neg)) (hmm : Hid (hi * 18446744073709551616 + lo = m)) (w : World) :
    Calls Try.prog 48 #[.int .i64 a, .int .i64 b] w fun e w' => e = .returned (.tuple #[.int .i64 (Pl.kept (Pl.sg m neg)), .bool (Pl.fit (Pl.sg m neg))]) ∧ w = w' := by
  have hn : ∃ x y : Bool, decide (a < 0) = x ∧ decide (b < 0) = y ∧ neg = (x != y) := ⟨_, _, rfl, rfl, hng.out.symm⟩
  obtain ⟨x, y, hx, hy, rfl⟩ := hn
  clear hng
  cases x <;> cases y
  all_goals
    go_enter Try.func48, Try.ntmps48
    go_wp2_with fail
    refine (rsize_as a A hA _ ha ha').mono ?_
    rintro e w' ⟨rfl, rfl⟩
    go_wp2_with fail
    refine (rsize_as b B hB _ hb hb').mono ?_
    rintro e w' ⟨rfl, rfl⟩
    go_wp2_with fail
    refine (product_as A B hi lo hm lA lB _).mono ?_
    rintro e w' ⟨rfl, rfl⟩
    go_wp2_with fail
    refine (rsigned_as _ hi lo m hmm lhi llo _).mono ?_
    rintro e w' ⟨rfl, rfl⟩
    go_wp2
    go_ret2
    exact ⟨rfl, rfl⟩
theorem rmul_any (a b : Int) (ha : -9223372036854775808 ≤ a) (ha' : a ≤ 9223372036854775807) (hb : -9223372036854775808 ≤ b) (hb' : b ≤ 9223372036854775807) (w : World) :
    Calls Try.prog 48 #[.int .i64 a, .int .i64 b] w fun e w' => e = .returned (.tuple #[.int .i64 (Pl.kept (a * b)), .bool (Pl.fit (a * b))]) ∧ w = w' := by
  have lA := Pl.nat_bd ha ha'
  have lB := Pl.nat_bd hb hb'
  have hhi : a.natAbs * b.natAbs / 18446744073709551616 < 18446744073709551616 := by
    rw [Nat.div_lt_iff_lt_mul (by omega)]
    exact Nat.mul_lt_mul'' lA lB
  have := rmul_core a b _ _ _ _ _ _ ha ha' hb hb' (Lib.hid rfl) (Lib.hid rfl) lA lB (Lib.hid ⟨rfl, rfl⟩) hhi (Nat.mod_lt _ (by omega)) (Lib.hid rfl) (Lib.hid (Nat.div_add_mod' _ _)) w
  rw [Pl.mul_sg] at this
  exact this
end Go.Proofs.Ytnlfkafebbfenaa
