/- Contracts of the reference's product, size, divide, signed, MulDiv, Floor, Clamp. -/
import Derived.Test.YtnlfkafebbfenaaMath
import Derived.Test.YtnlfkafebbfenaaPlainDiv
import Derived.Test.YtnlfkafebbfenaaPlainMd
import Derived.Lib.Hide
namespace Go.Proofs.Ytnlfkafebbfenaa
open Go.RowKit Go.Lib

theorem ret2 {a a' : Value} {b b' : Value} (h : a = a') (k : b = b') : Ending.returned (.tuple #[a, b]) = .returned (.tuple #[a', b']) := by rw [h, k]
theorem reti {k : IntKind} {a b : Int} (h : a = b) : Value.int k a = .int k b := by rw [h]

set_option maxHeartbeats 400000 in
theorem rsize_any (n : Int) (w : World) (h0 : -9223372036854775808 ≤ n) (h1 : n ≤ 9223372036854775807) :
    Calls Try.prog 55 #[.int .i64 n] w fun e w' => e = .returned (.int .u64 (n.natAbs : Int)) ∧ w = w' := by
  by_cases hn : n < 0
  · go_enter Try.func55, Try.ntmps55
    go_wp2
    go_ret
    refine ⟨congrArg Ending.returned (reti ?_), rfl⟩
    first | (simp only [IntKind.wrap_u64]; omega) | omega
  · go_enter Try.func55, Try.ntmps55
    go_wp2
    go_ret
    refine ⟨congrArg Ending.returned (reti ?_), rfl⟩
    first | (simp only [IntKind.wrap_u64]; omega) | omega

set_option maxHeartbeats 1000000 in
theorem product_any (a b : Nat) (ha : a < 18446744073709551616) (hb : b < 18446744073709551616) (w : World) :
    Calls Try.prog 54 #[.int .u64 a, .int .u64 b] w fun e w' => e = .returned (.tuple #[.int .u64 ((a * b / 18446744073709551616 : Nat) : Int), .int .u64 ((a * b % 18446744073709551616 : Nat) : Int)]) ∧ w = w' := by
  have b00 := Lib.half_mul_le (a := a % 4294967296) (b := b % 4294967296) (by omega) (by omega)
  have b01 := Lib.half_mul_le (a := a % 4294967296) (b := b / 4294967296) (by omega) (by omega)
  have b10 := Lib.half_mul_le (a := a / 4294967296) (b := b % 4294967296) (by omega) (by omega)
  have b11 := Lib.half_mul_le (a := a / 4294967296) (b := b / 4294967296) (by omega) (by omega)
  have e := Lib.split_mul (a / 4294967296) (a % 4294967296) (b / 4294967296) (b % 4294967296) 4294967296
  rw [Nat.div_add_mod' a 4294967296, Nat.div_add_mod' b 4294967296] at e
  obtain ⟨p00, h00⟩ : ∃ p, a % 4294967296 * (b % 4294967296) = p := ⟨_, rfl⟩
  obtain ⟨p01, h01⟩ : ∃ p, a % 4294967296 * (b / 4294967296) = p := ⟨_, rfl⟩
  obtain ⟨p10, h10⟩ : ∃ p, a / 4294967296 * (b % 4294967296) = p := ⟨_, rfl⟩
  obtain ⟨p11, h11⟩ : ∃ p, a / 4294967296 * (b / 4294967296) = p := ⟨_, rfl⟩
  rw [h00] at b00 e
  rw [h01] at b01 e
  rw [h10] at b10 e
  rw [h11] at b11 e
  have k00 : IntKind.u64.wrap ((a : Int) % 4294967296 * ((b : Int) % 4294967296)) = (p00 : Int) := by rw [← wrapN p00 (by omega), ← h00]; simp only [Int.natCast_mul, Int.natCast_emod, Int.cast_ofNat_Int]
  have k01 : IntKind.u64.wrap ((a : Int) % 4294967296 * ((b : Int) / 4294967296)) = (p01 : Int) := by rw [← wrapN p01 (by omega), ← h01]; simp only [Int.natCast_mul, Int.natCast_emod, Int.natCast_ediv, Int.cast_ofNat_Int]
  have k10 : IntKind.u64.wrap ((a : Int) / 4294967296 * ((b : Int) % 4294967296)) = (p10 : Int) := by rw [← wrapN p10 (by omega), ← h10]; simp only [Int.natCast_mul, Int.natCast_emod, Int.natCast_ediv, Int.cast_ofNat_Int]
  have k11 : IntKind.u64.wrap ((a : Int) / 4294967296 * ((b : Int) / 4294967296)) = (p11 : Int) := by rw [← wrapN p11 (by omega), ← h11]; simp only [Int.natCast_mul, Int.natCast_ediv, Int.cast_ofNat_Int]
  have E := Lib.hid e
  clear e h00 h01 h10 h11
  go_enter Try.func54, Try.ntmps54
  go_wp2
  go_ret2
  refine ⟨ret2 (reti ?_) (reti ?_), rfl⟩
  · rw [E.out]; clear k00 k01 k10 k11 E; omega
  · rw [E.out]; clear k00 k01 k10 k11 E; omega

set_option maxRecDepth 100000 in
set_option maxHeartbeats 1000000 in
theorem rdivide_any (hi lo c : Nat) (h1 : hi < 18446744073709551616) (h2 : lo < 18446744073709551616) (hc : 0 < c) (hc' : c < 18446744073709551616) (w : World) :
    Calls Try.prog 56 #[.int .u64 hi, .int .u64 lo, .int .u64 c] w fun e w' => e = .returned (.tuple #[.int .u64 (((hi * 18446744073709551616 + lo) / c / 18446744073709551616 : Nat) : Int), .int .u64 (((hi * 18446744073709551616 + lo) / c % 18446744073709551616 : Nat) : Int), .int .u64 (((hi * 18446744073709551616 + lo) % c : Nat) : Int)]) ∧ w = w' := by
  have hs := Pl.dvw_start hi lo c h1 h2 hc hc'
  obtain ⟨N, hN⟩ : ∃ N, hi * 18446744073709551616 + lo = N := ⟨_, rfl⟩
  rw [hN] at hs ⊢
  clear hN
  go_enter Try.func56, Try.ntmps56
  go_wp2
  go_loop [0, 1, 9, 10, 11, 12] (fun vhi vlo vq1 vq0 vr vi => ∃ i hi lo q1 q0 r : Nat, i ≤ 128 ∧ Pl.DvW N c i hi lo q1 q0 r ∧ vhi = .int .u64 hi ∧ vlo = .int .u64 lo ∧ vq1 = .int .u64 q1 ∧ vq0 = .int .u64 q0 ∧ vr = .int .u64 r ∧ vi = .int .i64 i) (fun _ _ _ _ _ vi => 128 - (RowKit.intOf vi).toNat)
  case atStart => exact ⟨0, hi, lo, 0, 0, 0, by omega, hs, rfl, rfl, rfl, rfl, rfl, rfl⟩
  case round =>
    clear hs h1 h2 hi lo
    obtain ⟨i, hi, lo, q1, q0, r, hi', hD, rfl, rfl, rfl, rfl, rfl, rfl⟩ := hrel
    by_cases hlt : i < 128
    · obtain ⟨b0, b1, b2, b3, b4, b5⟩ := Pl.dvw_r hD
      have Y1 := fun h => Pl.dvw_yes hD hlt (Or.inl h)
      have Y2 := fun h => Pl.dvw_yes hD hlt (Or.inr h)
      have Y3 := Pl.dvw_no hD hlt
      have khi : bits .or .u64 (IntKind.u64.wrap ((hi : Int) * 2)) ((lo : Int) / 9223372036854775808) = ((2 * hi % 18446744073709551616 + lo / 9223372036854775808 : Nat) : Int) := by
        rw [Pl.sh1, Pl.top1]; exact Pl.or1 _ _ (by omega)
      have klo : IntKind.u64.wrap ((lo : Int) * 2) = ((2 * lo % 18446744073709551616 : Nat) : Int) := Pl.sh1 lo
      have kq1 : bits .or .u64 (IntKind.u64.wrap ((q1 : Int) * 2)) ((q0 : Int) / 9223372036854775808) = ((2 * q1 % 18446744073709551616 + q0 / 9223372036854775808 : Nat) : Int) := by
        rw [Pl.sh1, Pl.top1]; exact Pl.or1 _ _ (by omega)
      have kq0 : IntKind.u64.wrap ((q0 : Int) * 2) = ((2 * q0 % 18446744073709551616 : Nat) : Int) := Pl.sh1 q0
      have kqo : bits .or .u64 ((2 * q0 % 18446744073709551616 : Nat) : Int) 1 = ((2 * q0 % 18446744073709551616 + 1 : Nat) : Int) := Pl.or1 q0 1 (by omega)
      have kr : bits .or .u64 (IntKind.u64.wrap ((r : Int) * 2)) ((hi : Int) / 9223372036854775808) = ((2 * r % 18446744073709551616 + hi / 9223372036854775808 : Nat) : Int) := by
        rw [Pl.sh1, Pl.top1]; exact Pl.or1 _ _ (by omega)
      have kt : (r : Int) / 9223372036854775808 = ((r / 9223372036854775808 : Nat) : Int) := Pl.top1 r
      have kw : IntKind.u64.wrap (((2 * r % 18446744073709551616 + hi / 9223372036854775808 : Nat) : Int) - (c : Int)) = (((2 * r % 18446744073709551616 + hi / 9223372036854775808 + (18446744073709551616 - c)) % 18446744073709551616 : Nat) : Int) := by
        rw [IntKind.wrap_u64]; omega
      obtain ⟨nhi, xhi⟩ : ∃ x, 2 * hi % 18446744073709551616 + lo / 9223372036854775808 = x := ⟨_, rfl⟩
      obtain ⟨nlo, xlo⟩ : ∃ x, 2 * lo % 18446744073709551616 = x := ⟨_, rfl⟩
      obtain ⟨nq1, xq1⟩ : ∃ x, 2 * q1 % 18446744073709551616 + q0 / 9223372036854775808 = x := ⟨_, rfl⟩
      obtain ⟨nqo, xqo⟩ : ∃ x, 2 * q0 % 18446744073709551616 + 1 = x := ⟨_, rfl⟩
      obtain ⟨nw, xw⟩ : ∃ x, (2 * r % 18446744073709551616 + hi / 9223372036854775808 + (18446744073709551616 - c)) % 18446744073709551616 = x := ⟨_, rfl⟩
      obtain ⟨nr, xr⟩ : ∃ x, 2 * r % 18446744073709551616 + hi / 9223372036854775808 = x := ⟨_, rfl⟩
      rw [xhi, xlo, xq1, xqo, xw] at Y1 Y2
      rw [xhi, xlo, xq1, xr] at Y3
      rw [xr] at Y2
      rw [xhi] at khi
      rw [xlo] at klo
      rw [xq1] at kq1
      rw [xqo] at kqo
      rw [xw, xr] at kw
      rw [xr] at kr
      obtain ⟨nq0, xq0⟩ : ∃ x, 2 * q0 % 18446744073709551616 = x := ⟨_, rfl⟩
      obtain ⟨nt, xt⟩ : ∃ x, r / 9223372036854775808 = x := ⟨_, rfl⟩
      rw [xq0] at Y3 kq0 kqo
      rw [xt] at Y1 Y3 kt
      have H1 := Lib.hid Y1
      have H2 := Lib.hid Y2
      have H3 := Lib.hid Y3
      clear Y1 Y2 Y3 xhi xlo xq1 xqo xw xr xq0 xt hD b0 b1 b2 b3 b4 b5
      by_cases ht : nt = 1
      · have tb : ((nt : Int) == 1) = true := by simp [ht]
        have HD := Lib.hid (H1.out ht)
        clear H1 H2 H3 ht
        go_wp2
        go_round
        case rel => exact ⟨i + 1, nhi, nlo, nq1, nqo, nw, by omega, HD.out, rfl, rfl, rfl, rfl, rfl, by go_num⟩
        case measure => simp [RowKit.intOf]; omega
      · have tb : ((nt : Int) == 1) = false := by simp; omega
        by_cases hcr : (c : Int) ≤ (nr : Int)
        · have HD := Lib.hid (H2.out (by omega))
          clear H1 H2 H3 ht
          go_wp2
          go_round
          case rel => exact ⟨i + 1, nhi, nlo, nq1, nqo, nw, by omega, HD.out, rfl, rfl, rfl, rfl, rfl, by go_num⟩
          case measure => simp [RowKit.intOf]; omega
        · have HD := Lib.hid (H3.out ht (by omega))
          clear H1 H2 H3 ht
          go_wp2
          go_round
          case rel => exact ⟨i + 1, nhi, nlo, nq1, nq0, nr, by omega, HD.out, rfl, rfl, rfl, rfl, rfl, by go_num⟩
          case measure => simp [RowKit.intOf]; omega
    · obtain rfl : i = 128 := by omega
      obtain ⟨e1, e2, e3⟩ := Pl.dvw_end hD
      go_wp2
      go_ret3
      exact ⟨rfl, rfl⟩

theorem rsg_big {hi lo : Nat} (neg : Bool) (h : 0 < hi ∨ 9223372036854775808 < lo ∨ (lo = 9223372036854775808 ∧ neg = false)) : Pl.kept (Pl.sg (hi * 18446744073709551616 + lo) neg) = 0 ∧ Pl.fit (Pl.sg (hi * 18446744073709551616 + lo) neg) = false := by
  have e : Pl.fit (Pl.sg (hi * 18446744073709551616 + lo) neg) = false := by
    rw [Pl.sg_fit]
    cases neg
    · simp only [Bool.false_eq_true, if_false, decide_eq_false_iff_not]; omega
    · simp only [if_true, decide_eq_false_iff_not]
      rcases h with h | h | ⟨_, h⟩
      · omega
      · omega
      · cases h
  simp [Pl.kept, e]
theorem rsg_pos {lo : Nat} (h : lo < 9223372036854775808) : Pl.kept (Pl.sg (0 * 18446744073709551616 + lo) false) = (lo : Int) ∧ Pl.fit (Pl.sg (0 * 18446744073709551616 + lo) false) = true := by
  rw [Nat.zero_mul, Nat.zero_add]
  have e : Pl.fit (Pl.sg lo false) = true := by rw [Pl.sg_fit]; simp; omega
  rw [e, Pl.kept_yes e]
  exact ⟨rfl, rfl⟩
theorem rsg_neg {lo : Nat} (h : lo ≤ 9223372036854775808) : Pl.kept (Pl.sg (0 * 18446744073709551616 + lo) true) = -(lo : Int) ∧ Pl.fit (Pl.sg (0 * 18446744073709551616 + lo) true) = true := by
  rw [Nat.zero_mul, Nat.zero_add]
  have e : Pl.fit (Pl.sg lo true) = true := by rw [Pl.sg_fit]; simp; omega
  rw [e, Pl.kept_yes e]
  exact ⟨rfl, rfl⟩

set_option maxHeartbeats 1000000 in
theorem rsigned_any (neg : Bool) (hi lo : Nat) (h1 : hi < 18446744073709551616) (h2 : lo < 18446744073709551616) (w : World) :
    Calls Try.prog 57 #[.bool neg, .int .u64 hi, .int .u64 lo] w fun e w' => e = .returned (.tuple #[.int .i64 (Pl.kept (Pl.sg (hi * 18446744073709551616 + lo) neg)), .bool (Pl.fit (Pl.sg (hi * 18446744073709551616 + lo) neg))]) ∧ w = w' := by
  by_cases c1 : 0 < hi
  · obtain ⟨k1, k2⟩ := rsg_big (lo := lo) neg (Or.inl c1)
    rw [k1, k2]
    clear k1 k2
    have t1 : (0 : Int) < (hi : Int) := by omega
    go_enter Try.func57, Try.ntmps57
    go_wp2
    go_ret2
    exact ⟨rfl, rfl⟩
  · obtain rfl : hi = 0 := by omega
    by_cases c2 : 9223372036854775808 < lo
    · obtain ⟨k1, k2⟩ := rsg_big (hi := 0) neg (Or.inr (Or.inl c2))
      rw [k1, k2]
      clear k1 k2
      have t1 : (9223372036854775808 : Int) < (lo : Int) := by omega
      go_enter Try.func57, Try.ntmps57
      go_wp2
      go_ret2
      exact ⟨rfl, rfl⟩
    · have t1 : (lo : Int) ≤ 9223372036854775808 := by omega
      cases neg
      · by_cases c3 : lo = 9223372036854775808
        · obtain ⟨k1, k2⟩ := rsg_big (hi := 0) (lo := lo) false (Or.inr (Or.inr ⟨c3, rfl⟩))
          rw [k1, k2]
          clear k1 k2
          have t2 : ((lo : Int) == 9223372036854775808) = true := by simp; omega
          clear c2 c3
          go_enter Try.func57, Try.ntmps57
          go_wp2
          go_ret2
          exact ⟨rfl, rfl⟩
        · obtain ⟨k1, k2⟩ := rsg_pos (lo := lo) (by omega)
          rw [k1, k2]
          clear k1 k2
          have t2 : ((lo : Int) == 9223372036854775808) = false := by simp; omega
          have t3 : (lo : Int) ≤ 9223372036854775807 := by omega
          clear c2 c3
          go_enter Try.func57, Try.ntmps57
          go_wp2
          go_ret2
          exact ⟨rfl, rfl⟩
      · obtain ⟨k1, k2⟩ := rsg_neg (lo := lo) (by omega)
        rw [k1, k2]
        clear k1 k2
        by_cases c3 : lo = 0
        · subst c3
          go_enter Try.func57, Try.ntmps57
          go_wp2
          go_ret2
          exact ⟨rfl, rfl⟩
        · have t2 : ((lo : Int) == 0) = false := by simp; omega
          have t3 : (0 : Int) < (lo : Int) := by omega
          clear c2 c3
          go_enter Try.func57, Try.ntmps57
          go_wp2
          all_goals (go_ret2; exact ⟨ret2 (reti (by omega)) rfl, rfl⟩)

theorem rsize_as (n : Int) (N : Nat) (h : Hid (n.natAbs = N)) (w : World) (h0 : -9223372036854775808 ≤ n) (h1 : n ≤ 9223372036854775807) :
    Calls Try.prog 55 #[.int .i64 n] w fun e w' => e = .returned (.int .u64 (N : Int)) ∧ w = w' := by
  have := rsize_any n w h0 h1
  rw [h.out] at this
  exact this
theorem product_as (x y hi lo : Nat) (h : Hid (x * y / 18446744073709551616 = hi ∧ x * y % 18446744073709551616 = lo)) (hx : x < 18446744073709551616) (hy : y < 18446744073709551616) (w : World) :
    Calls Try.prog 54 #[.int .u64 x, .int .u64 y] w fun e w' => e = .returned (.tuple #[.int .u64 (hi : Int), .int .u64 (lo : Int)]) ∧ w = w' := by
  have := product_any x y hx hy w
  rw [h.out.1, h.out.2] at this
  exact this
theorem rdivide_as (hi lo c q1 q0 r : Nat) (h : Hid ((hi * 18446744073709551616 + lo) / c / 18446744073709551616 = q1 ∧ (hi * 18446744073709551616 + lo) / c % 18446744073709551616 = q0 ∧ (hi * 18446744073709551616 + lo) % c = r))
    (h1 : hi < 18446744073709551616) (h2 : lo < 18446744073709551616) (hc : 0 < c) (hc' : c < 18446744073709551616) (w : World) :
    Calls Try.prog 56 #[.int .u64 hi, .int .u64 lo, .int .u64 c] w fun e w' => e = .returned (.tuple #[.int .u64 (q1 : Int), .int .u64 (q0 : Int), .int .u64 (r : Int)]) ∧ w = w' := by
  have := rdivide_any hi lo c h1 h2 hc hc' w
  rw [h.out.1, h.out.2.1, h.out.2.2] at this
  exact this
theorem rsigned_as (neg : Bool) (hi lo m : Nat) (h : Hid (hi * 18446744073709551616 + lo = m)) (h1 : hi < 18446744073709551616) (h2 : lo < 18446744073709551616) (w : World) :
    Calls Try.prog 57 #[.bool neg, .int .u64 hi, .int .u64 lo] w fun e w' => e = .returned (.tuple #[.int .i64 (Pl.kept (Pl.sg m neg)), .bool (Pl.fit (Pl.sg m neg))]) ∧ w = w' := by
  have := rsigned_any neg hi lo h1 h2 w
  rw [h.out] at this
  exact this

#print axioms rsigned_as
#print axioms rdivide_as
#print axioms product_as
end Go.Proofs.Ytnlfkafebbfenaa
