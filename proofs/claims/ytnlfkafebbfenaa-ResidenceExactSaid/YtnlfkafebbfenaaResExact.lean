/- The walk of ResidenceExact. -/
import Derived.Test.YtnlfkafebbfenaaRes7
namespace Go.Proofs.Ytnlfkafebbfenaa
namespace Pl
theorem md_anti {d x y : Int} (hd : 0 ≤ d) (hx : -500000 ≤ x) (hxy : x ≤ y) : md d 1000000000 (1000000000 + y) ≤ md d 1000000000 (1000000000 + x) := by
  unfold md
  rw [Int.le_ediv_iff_mul_le (by omega)]
  have q0 : 0 ≤ d * 1000000000 / (1000000000 + y) := Int.ediv_nonneg (by omega) (by omega)
  have a := Int.mul_le_mul_of_nonneg_left (show 1000000000 + x ≤ 1000000000 + y by omega) q0
  have b := Int.ediv_mul_le (d * 1000000000) (show 1000000000 + y ≠ 0 by omega)
  omega
theorem md_ge {d x : Int} (hd : 0 ≤ d) (hx : -500000 ≤ x) (h0 : x ≤ 0) : d ≤ md d 1000000000 (1000000000 + x) := by
  unfold md
  rw [Int.le_ediv_iff_mul_le (by omega), Int.mul_add]
  have := Int.mul_nonneg hd (show 0 ≤ -x by omega)
  rw [Int.mul_neg] at this
  omega
theorem md_le {d y : Int} (hd : 0 ≤ d) (h0 : 0 ≤ y) : md d 1000000000 (1000000000 + y) ≤ d := by
  unfold md
  have : d * 1000000000 / (1000000000 + y) < d + 1 := by
    rw [Int.ediv_lt_iff_lt_mul (by omega), Int.add_mul, Int.mul_add]
    have := Int.mul_nonneg hd h0
    omega
  omega
theorem md_zero (d : Int) : md d 1000000000 (1000000000 + 0) = d := by
  unfold md
  rw [Int.add_zero, Int.mul_ediv_cancel _ (by omega)]
theorem md_more {d e x : Int} (hx : -500000 ≤ x) (he : d ≤ e) : md d 1000000000 (1000000000 + x) ≤ md e 1000000000 (1000000000 + x) := by
  unfold md
  exact Int.ediv_le_ediv (by omega) (by omega)
theorem stay_zero {i o p : Int} (h1 : -4503599627370496 ≤ i) (h2 : i ≤ o) (h3 : o ≤ 4503599627370496) (h4 : -500000 ≤ p) (h5 : p ≤ 500000) : stayE i o p = 0 ∧ stayN i o p = md (o - i) 1000000000 (1000000000 + p) := by
  have e : stayE i o p = 0 := by
    unfold stayE
    rw [if_pos (by simp [inr_iff]; omega), if_neg (by omega)]
  exact ⟨e, by unfold stayN; rw [if_pos e]⟩
theorem tmod_ppb (a : Int) : -500000 ≤ a.tmod 500001 ∧ a.tmod 500001 ≤ 500000 := by
  rcases Int.lt_or_le a 0 with h | h
  · obtain ⟨n, rfl⟩ : ∃ n, a = -n := ⟨-a, by omega⟩
    rw [Int.neg_tmod, Int.tmod_eq_emod_of_nonneg (by omega)]
    omega
  · rw [Int.tmod_eq_emod_of_nonneg h]
    omega
end Pl
open Go.RowKit Go.Lib

theorem i32_bd {n : Int} (h : (Lit.int .i32 n).wf = true) : -2147483648 ≤ n ∧ n ≤ 2147483647 := by
  have hmin : IntKind.i32.min = -2147483648 := rfl
  have hmax : IntKind.i32.max = 2147483647 := rfl
  simp only [Lit.wf, Bool.and_eq_true, decide_eq_true_eq] at h
  omega
theorem u32_bd {n : Int} (h : (Lit.int .u32 n).wf = true) : 0 ≤ n ∧ n ≤ 4294967295 := by
  have hmin : IntKind.u32.min = 0 := rfl
  have hmax : IntKind.u32.max = 4294967295 := rfl
  simp only [Lit.wf, Bool.and_eq_true, decide_eq_true_eq] at h
  omega

set_option maxHeartbeats 4000000 in
theorem residenceExact_walk (i d m a b : Int) (w : World) (h1 : (Lit.int .i32 i).wf = true) (h2 : (Lit.int .u32 d).wf = true) (h3 : (Lit.int .u32 m).wf = true) (h4 : (Lit.int .i32 a).wf = true) (h5 : (Lit.int .i32 b).wf = true) :
    Calls Try.prog 7 #[.int .i32 i, .int .u32 d, .int .u32 m, .int .i32 a, .int .i32 b] w fun e w' => e = .returned (.bool true) ∧ Below w.heap.size w w' := by
  obtain ⟨i1, i2⟩ := i32_bd h1
  obtain ⟨d1, d2⟩ := u32_bd h2
  obtain ⟨m1, m2⟩ := u32_bd h3
  obtain ⟨a1, a2⟩ := i32_bd h4
  obtain ⟨b1, b2⟩ := i32_bd h5
  have xa := Pl.tmod_ppb a
  have xb := Pl.tmod_ppb b
  have kwi : IntKind.i64.wrap i = i := IntWalk.i64_in _ (by omega)
  have kwd : IntKind.i64.wrap d = d := IntWalk.i64_in _ (by omega)
  have kwm : IntKind.i64.wrap m = m := IntWalk.i64_in _ (by omega)
  have kwa : IntKind.i64.wrap a = a := IntWalk.i64_in _ (by omega)
  have kwb : IntKind.i64.wrap b = b := IntWalk.i64_in _ (by omega)
  have kwx : IntKind.i64.wrap (a.tmod 500001) = a.tmod 500001 := IntWalk.i64_in _ (by omega)
  have kwy : IntKind.i64.wrap (b.tmod 500001) = b.tmod 500001 := IntWalk.i64_in _ (by omega)
  have kwt : IntKind.i64.wrap (i + d) = i + d := IntWalk.i64_in _ (by omega)
  have kwu : IntKind.i64.wrap (i + d + m) = i + d + m := IntWalk.i64_in _ (by omega)
  have kwv : IntKind.i64.wrap (i + d + 1) = i + d + 1 := IntWalk.i64_in _ (by omega)
  obtain ⟨X0, hX0⟩ : ∃ X, a.tmod 500001 = X := ⟨_, rfl⟩
  obtain ⟨Y0, hY0⟩ : ∃ X, b.tmod 500001 = X := ⟨_, rfl⟩
  rw [hX0] at xa kwx
  rw [hY0] at xb kwy
  obtain ⟨X, hX⟩ : ∃ X, min X0 Y0 = X := ⟨_, rfl⟩
  obtain ⟨Y, hY⟩ : ∃ X, max X0 Y0 = X := ⟨_, rfl⟩
  have hXY : -500000 ≤ X ∧ X ≤ 500000 ∧ -500000 ≤ Y ∧ Y ≤ 500000 ∧ X ≤ Y := by omega
  obtain ⟨p1, p2, p3, p4, p5⟩ := hXY
  have z1 := Pl.stay_zero (i := i) (o := i + d) (p := 0) (by omega) (by omega) (by omega) (by omega) (by omega)
  have z2 := Pl.stay_zero (i := i) (o := i + d) (p := X) (by omega) (by omega) (by omega) (by omega) (by omega)
  have z3 := Pl.stay_zero (i := i) (o := i + d) (p := Y) (by omega) (by omega) (by omega) (by omega) (by omega)
  have z4 := Pl.stay_zero (i := i) (o := i + d + m) (p := X) (by omega) (by omega) (by omega) (by omega) (by omega)
  have z5 : Pl.stayE (i + d + 1) (i + d) 0 = 12 := by
    unfold Pl.stayE
    rw [if_pos (by simp [Pl.inr_iff]; omega), if_pos (by omega)]
  have z6 : Pl.stayN (i + d + 1) (i + d) 0 = 0 := by unfold Pl.stayN; rw [z5]; rfl
  rw [show i + d - i = d by omega] at z1 z2 z3
  rw [show i + d + m - i = d + m by omega] at z4
  rw [Pl.md_zero] at z1
  have q1 := Pl.md_anti d1 p1 p5
  have q2 : X ≤ 0 → d ≤ Pl.md d 1000000000 (1000000000 + X) := fun h => Pl.md_ge d1 p1 h
  have q3 : 0 ≤ Y → Pl.md d 1000000000 (1000000000 + Y) ≤ d := fun h => Pl.md_le d1 h
  have q4 := Pl.md_more (d := d) (e := d + m) p1 (by omega)
  have S1 := fun W => stay_any i (i + d) 0 W
  have S2 := fun W => stay_any i (i + d) X W
  have S3 := fun W => stay_any i (i + d) Y W
  have S4 := fun W => stay_any i (i + d + m) X W
  have S5 := fun W => stay_any (i + d + 1) (i + d) 0 W
  rw [z1.1, z1.2] at S1
  rw [z2.1, z2.2] at S2
  rw [z3.1, z3.2] at S3
  rw [z4.1, z4.2] at S4
  rw [z5, z6] at S5
  obtain ⟨A, hA⟩ : ∃ A, Pl.md d 1000000000 (1000000000 + X) = A := ⟨_, rfl⟩
  obtain ⟨B, hB⟩ : ∃ A, Pl.md d 1000000000 (1000000000 + Y) = A := ⟨_, rfl⟩
  obtain ⟨C, hC⟩ : ∃ A, Pl.md (d + m) 1000000000 (1000000000 + X) = A := ⟨_, rfl⟩
  rw [hA] at S2 q1 q2 q4
  rw [hB] at S3 q1 q3
  rw [hC] at S4 q4
  replace S1 := Lib.hid S1
  replace S2 := Lib.hid S2
  replace S3 := Lib.hid S3
  replace S4 := Lib.hid S4
  replace S5 := Lib.hid S5
  have u1 : decide (B ≤ A) = true := by simp [q1]
  have u2 : decide (A ≤ C) = true := by simp [q4]
  have u3 : decide (0 < X) = true ∨ (decide (0 < X) = false ∧ decide (d ≤ A) = true) := by
    by_cases h : 0 < X
    · exact .inl (by simp [h])
    · exact .inr ⟨by simp; omega, by simp; exact q2 (by omega)⟩
  have u4 : decide (Y < 0) = true ∨ (decide (Y < 0) = false ∧ decide (B ≤ d) = true) := by
    by_cases h : Y < 0
    · exact .inl (by simp [h])
    · exact .inr ⟨by simp; omega, by simp; exact q3 (by omega)⟩
  clear z1 z2 z3 z4 z5 z6 q1 q2 q3 q4 hA hB hC h1 h2 h3 h4 h5 xa xb i1 i2 d1 d2 m1 m2 a1 a2 b1 b2 p1 p2 p3 p4 p5
  rcases u3 with u3 | ⟨u3, u5⟩
  all_goals (
    rcases u4 with u4 | ⟨u4, u6⟩
    all_goals (
      go_enter Try.func7, Try.ntmps7
      go_wp2_with fail
      refine (S1.out _).mono ?_
      rintro _ w1 ⟨rfl, l1⟩
      have B1 := l1
      go_wp2_with fail
      refine (S2.out _).mono ?_
      rintro _ w2 ⟨rfl, l2⟩
      have B2 := bel_on B1 l2
      clear l1 l2 B1
      go_wp2_with fail
      refine (S3.out _).mono ?_
      rintro _ w3 ⟨rfl, l3⟩
      have B3 := bel_on B2 l3
      clear l3 B2
      go_wp2_with fail
      refine (S4.out _).mono ?_
      rintro _ w4 ⟨rfl, l4⟩
      have B4 := bel_on B3 l4
      clear l4 B3
      go_wp2_with fail
      refine (S5.out _).mono ?_
      rintro _ w5 ⟨rfl, l5⟩
      have B5 := bel_on B4 l5
      clear l5 B4
      go_wp2_with fail
      refine (rawake_any _).mono ?_
      rintro _ w6 ⟨rfl, l6⟩
      go_wp2
      go_ret
      exact ⟨rfl, bel_on B5 l6⟩))
end Go.Proofs.Ytnlfkafebbfenaa
