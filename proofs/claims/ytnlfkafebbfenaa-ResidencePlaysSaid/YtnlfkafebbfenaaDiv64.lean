/- The contract of math/bits.Div64: quotient and remainder of two words by one, where the quotient fits; the world stays. -/
import Derived.Test.YtnlfkafebbfenaaMath
import Derived.Deep.DeepCutAuto
import Derived.Deep.CutBlock
import Derived.Deep.LoopGhost
import Derived.Deep.QuietTactic
import Derived.BigQuiet
import Derived.Lib.Hide
namespace Go.Proofs.Ytnlfkafebbfenaa
open Go.RowKit Go.Lib

theorem dret2 {a a' : Value} {b b' : Value} (h : a = a') (k : b = b') : Ending.returned (.tuple #[a, b]) = .returned (.tuple #[a', b']) := by rw [h, k]
theorem dreti {k : IntKind} {a b : Int} (h : a = b) : Value.int k a = .int k b := by rw [h]

set_option maxHeartbeats 1000000 in
theorem div64_low (lo y : Nat) (hlo : lo < 18446744073709551616) (hy : y < 18446744073709551616) (h0 : 0 < y) (w : World) :
    Calls Try.prog 52 #[.int .u64 0, .int .u64 lo, .int .u64 y] w fun e w' => e = .returned (.tuple #[.int .u64 ((lo / y : Nat) : Int), .int .u64 ((lo % y : Nat) : Int)]) ∧ ∃ n, w' = w.drewN n := by
  have e1 : ((y : Int) == 0) = false := by simp; omega
  have e2 : ¬ (y : Int) ≤ 0 := by omega
  go_enter Try.func52, Try.ntmps52
  go_wp2
  go_quiet (fail)
  go_wp2
  go_ret2
  refine ⟨dret2 (dreti ?_) (dreti ?_), _, rfl⟩
  · rw [← Int.natCast_ediv]
    exact wrapN _ (Nat.lt_of_le_of_lt (Nat.div_le_self _ _) hlo)
  · exact (Int.natCast_emod _ _).symm

set_option maxRecDepth 100000 in
set_option maxHeartbeats 1000000 in
theorem div64_high (hi lo y s Y y1 y0 u L d1 d0 q0 qy r0 : Nat) (hhi : 0 < hi) (hlo : lo < 18446744073709551616) (hy : y < 18446744073709551616) (hh : hi < y)
    (hs : s < 64) (hl : Hid (Lib.bitLen y = 64 - s)) (hY1 : 9223372036854775808 ≤ Y) (hY2 : Y < 18446744073709551616)
    (kY : IntKind.u64.wrap ((y : Int) * 2 ^ s) = (Y : Int)) (kY1 : (Y : Int) / 4294967296 = (y1 : Int)) (kY0 : bits .and .u64 (Y : Int) 4294967295 = (y0 : Int))
    (hy1 : 2147483648 ≤ y1) (hy1' : y1 < 4294967296) (hy0 : y0 < 4294967296)
    (kU : bits .or .u64 (IntKind.u64.wrap ((hi : Int) * 2 ^ s)) ((lo : Int) / 2 ^ (64 - s)) = (u : Int)) (hu : u < Y)
    (kL : IntKind.u64.wrap ((lo : Int) * 2 ^ s) = (L : Int)) (hL : L < 18446744073709551616)
    (kd1 : (L : Int) / 4294967296 = (d1 : Int)) (kd0 : bits .and .u64 (L : Int) 4294967295 = (d0 : Int)) (hd1 : d1 < 4294967296) (hd0 : d0 < 4294967296)
    (kq0 : IntKind.u64.wrap ((u : Int) / (y1 : Int)) = (q0 : Int)) (kqy : IntKind.u64.wrap ((q0 : Int) * (y1 : Int)) = (qy : Int)) (hqy : qy ≤ u) (kr0 : (u : Int) - (qy : Int) = (r0 : Int))
    (hK1 : Pl.Kn u y1 y0 d1 q0 r0) (hr0 : r0 < 4294967296) (hDY : Hid (Y = y1 * 4294967296 + y0)) (D v : Nat) (hD : Hid ((u * 4294967296 + d1) / (y1 * 4294967296 + y0) = D)) (hDl : D < 4294967296)
    (q1 qy1 r1 D0 v2 : Nat) (kv : Hid (IntKind.u64.wrap (IntKind.u64.wrap (IntKind.u64.wrap ((u : Int) * 4294967296) + (d1 : Int)) - IntKind.u64.wrap ((D : Int) * (Y : Int))) = (v : Int))) (hv : v < Y)
    (kq1 : Hid (IntKind.u64.wrap ((v : Int) / (y1 : Int)) = (q1 : Int))) (kqy1 : Hid (IntKind.u64.wrap ((q1 : Int) * (y1 : Int)) = (qy1 : Int))) (hqy1 : qy1 ≤ v) (kr1 : Hid ((v : Int) - (qy1 : Int) = (r1 : Int)))
    (hK2 : Pl.Kn v y1 y0 d0 q1 r1) (hr1 : r1 < 4294967296) (hD0 : Hid ((v * 4294967296 + d0) / (y1 * 4294967296 + y0) = D0)) (hD0l : D0 < 4294967296)
    (kv2 : Hid (IntKind.u64.wrap (IntKind.u64.wrap (IntKind.u64.wrap ((v : Int) * 4294967296) + (d0 : Int)) - IntKind.u64.wrap ((D0 : Int) * (Y : Int))) = (v2 : Int)))
    (hf1 : Hid (D * 4294967296 + D0 = (hi * 18446744073709551616 + lo) / y)) (hf2 : Hid (v2 / 2 ^ s = (hi * 18446744073709551616 + lo) % y))
    (w : World) :
    Calls Try.prog 52 #[.int .u64 hi, .int .u64 lo, .int .u64 y] w fun e w' => e = .returned (.tuple #[.int .u64 (((hi * 18446744073709551616 + lo) / y : Nat) : Int), .int .u64 (((hi * 18446744073709551616 + lo) % y : Nat) : Int)]) ∧ w = w' := by
  have e1 : ((y : Int) == 0) = false := by simp; omega
  have e2 : ¬ (y : Int) ≤ (hi : Int) := by omega
  have e3 : ((hi : Int) == 0) = false := by simp; omega
  go_enter Try.func52, Try.ntmps52
  go_wp2_with fail
  refine (lead64_any _ s _ hy hs hl).mono ?_
  rintro e w' ⟨rfl, rfl⟩
  go_upto_block 0 with fail
  clear kY kU kL kY1 kY0 kd1 kd0 kqy kr0 e1 e2 e3 hl
  go_cut [15, 16] (fun s15 s16 wx => ∃ r : Nat, s15 = .int .u64 (D : Int) ∧ s16 = .int .u64 (r : Int) ∧ wx = w)
  case first =>
    have hu' : u < y1 * 4294967296 + y0 := by have := hDY.out; omega
    have hy1p : 0 < y1 := by omega
    have hD := hD.out
    clear kq0
    go_wp2_with fail
    go_loopg [15, 16] 4294967296 (fun k a b wr => ∃ q r : Nat, Pl.Kn u y1 y0 d1 q r ∧ r < 4294967296 ∧ q ≤ 4294967297 ∧ 4294967296 - r ≤ k ∧ a = .int .u64 (q : Int) ∧ b = .int .u64 (r : Int) ∧ wr = w)
    case atStart => exact ⟨q0, r0, hK1, hr0, hK1.2.2, by omega, rfl, rfl, rfl⟩
    case round =>
      obtain ⟨q, r, hK, hr, hq, hk, rfl, rfl, rfl⟩ := hrel
      have t1 : 4294967296 ≤ q ∨ 4294967296 * r + d1 < q * y0 ∨ (q < 4294967296 ∧ q * y0 ≤ 4294967296 * r + d1) := by omega
      have HS := Lib.hid (fun h => Pl.kn_step hK hd1 hu' h)
      have HE := Lib.hid (fun h => (Pl.kn_end hK hy1p h).trans hD)
      have HB := Lib.hid (fun (h1 : 1 ≤ q) (h : Pl.Kn u y1 y0 d1 (q - 1) (r + y1)) h2 => (Pl.kn_break h hy1p hy0 (by omega) h2).trans hD)
      obtain ⟨m, hm⟩ : ∃ m, q * y0 = m := ⟨_, rfl⟩
      rw [hm] at t1 HS HE
      have km : q < 4294967296 → IntKind.u64.wrap ((q : Int) * (y0 : Int)) = (m : Int) ∧ m < 18446744073709551616 := fun h => by
        have := Lib.half_mul_le (a := q) (b := y0) (by omega) (by omega)
        rw [mulN, hm, wrapN _ (by omega)]
        exact ⟨rfl, by omega⟩
      have t2 : (q : Int) ≤ 4294967297 := by omega
      have t3 : (r : Int) < 4294967296 := by omega
      have t4 : (y1 : Int) < 4294967296 := by omega
      have t5 : (2147483648 : Int) ≤ (y1 : Int) := by omega
      have t6 : (d1 : Int) < 4294967296 := by omega
      have hkk : Hid (4294967296 - r ≤ gk ∧ r < 4294967296) := ⟨hk, hr⟩
      clear hK hk hr hq hm hu' hy1p hD hK1 hy0 hd1 hr0 hqy hd0 hy1' hu hL hY1 hY2 hhi hlo hy hh hs hy1 hDl hD0l hv hqy1 hK2 hr1
      by_cases c1 : (4294967296 : Int) ≤ (q : Int)
      · obtain ⟨hq1, hK'⟩ := HS.out (Or.inl (by omega))
        have HK := Lib.hid hK'
        have t7 : (1 : Int) ≤ (q : Int) := by omega
        clear hK' hq1 t1 km HS HE
        by_cases c4 : (4294967296 : Int) ≤ (r : Int) + (y1 : Int)
        · go_wp2_with fail
          go_meet
          case rel => exact ⟨r + y1, dreti (by have := HB.out (by omega) HK.out (by omega); omega), dreti (by omega), rfl⟩
        · go_wp2_with fail
          go_roundg (4294967296 - (r + y1))
          case measure => have := hkk.out; omega
          case rel => exact ⟨q - 1, r + y1, HK.out, by omega, by omega, by omega, dreti (by omega), dreti (by omega), rfl⟩
      · obtain ⟨km, hm'⟩ := km (by omega)
        by_cases c2 : 4294967296 * (r : Int) + (d1 : Int) < (m : Int)
        · obtain ⟨hq1, hK'⟩ := HS.out (Or.inr (by omega))
          have HK := Lib.hid hK'
          have t7 : (1 : Int) ≤ (q : Int) := by omega
          clear hK' hq1 t1 HS HE
          by_cases c4 : (4294967296 : Int) ≤ (r : Int) + (y1 : Int)
          · go_wp2_with fail
            go_meet
            case rel => exact ⟨r + y1, dreti (by have := HB.out (by omega) HK.out (by omega); omega), dreti (by omega), rfl⟩
          · go_wp2_with fail
            go_roundg (4294967296 - (r + y1))
            case measure => have := hkk.out; omega
            case rel => exact ⟨q - 1, r + y1, HK.out, by omega, by omega, by omega, dreti (by omega), dreti (by omega), rfl⟩
        · have HE' := Lib.hid (HE.out (by omega))
          clear t1 HS HE HB
          go_wp2_with fail
          go_meet
          case rel => exact ⟨r, dreti (by have := HE'.out; omega), rfl, rfl⟩
  case rest =>
    obtain ⟨r, rfl, rfl, rfl⟩ := hcut
    clear hK1 hr0 hqy hu
    have kv := kv.out
    have kq1 := kq1.out
    have kqy1 := kqy1.out
    have kr1 := kr1.out
    clear kq0
    go_upto_block 2 with fail
    clear kv kq1 kqy1 kr1
    go_cut [18, 16] (fun s18 s16 wx => ∃ r : Nat, s18 = .int .u64 (D0 : Int) ∧ s16 = .int .u64 (r : Int) ∧ wx = wc)
    case first =>
      have hu' : v < y1 * 4294967296 + y0 := by have := hDY.out; omega
      have hy1p : 0 < y1 := by omega
      have hD := hD0.out
      go_wp2_with fail
      go_loopg [18, 16] 4294967296 (fun k a b wr => ∃ q r : Nat, Pl.Kn v y1 y0 d0 q r ∧ r < 4294967296 ∧ q ≤ 4294967297 ∧ 4294967296 - r ≤ k ∧ a = .int .u64 (q : Int) ∧ b = .int .u64 (r : Int) ∧ wr = wc)
      case atStart => exact ⟨q1, r1, hK2, hr1, hK2.2.2, by omega, rfl, rfl, rfl⟩
      case round =>
        obtain ⟨q, r, hK, hr, hq, hk, rfl, rfl, rfl⟩ := hrel
        have t1 : 4294967296 ≤ q ∨ 4294967296 * r + d0 < q * y0 ∨ (q < 4294967296 ∧ q * y0 ≤ 4294967296 * r + d0) := by omega
        have HS := Lib.hid (fun h => Pl.kn_step hK hd0 hu' h)
        have HE := Lib.hid (fun h => (Pl.kn_end hK hy1p h).trans hD)
        have HB := Lib.hid (fun (h1 : 1 ≤ q) (h : Pl.Kn v y1 y0 d0 (q - 1) (r + y1)) h2 => (Pl.kn_break h hy1p hy0 (by omega) h2).trans hD)
        obtain ⟨m, hm⟩ : ∃ m, q * y0 = m := ⟨_, rfl⟩
        rw [hm] at t1 HS HE
        have km : q < 4294967296 → IntKind.u64.wrap ((q : Int) * (y0 : Int)) = (m : Int) ∧ m < 18446744073709551616 := fun h => by
          have := Lib.half_mul_le (a := q) (b := y0) (by omega) (by omega)
          rw [mulN, hm, wrapN _ (by omega)]
          exact ⟨rfl, by omega⟩
        have t2 : (q : Int) ≤ 4294967297 := by omega
        have t3 : (r : Int) < 4294967296 := by omega
        have t4 : (y1 : Int) < 4294967296 := by omega
        have t5 : (2147483648 : Int) ≤ (y1 : Int) := by omega
        have t6 : (d0 : Int) < 4294967296 := by omega
        have hkk : Hid (4294967296 - r ≤ gk ∧ r < 4294967296) := ⟨hk, hr⟩
        clear hK hk hr hq hm hu' hy1p hD hK2 hy0 hd0 hr1 hqy1 hd1 hy1' hv hL hY1 hY2 hhi hlo hy hh hs hy1 hDl hD0l
        by_cases c1 : (4294967296 : Int) ≤ (q : Int)
        · obtain ⟨hq1, hK'⟩ := HS.out (Or.inl (by omega))
          have HK := Lib.hid hK'
          have t7 : (1 : Int) ≤ (q : Int) := by omega
          clear hK' hq1 t1 km HS HE
          by_cases c4 : (4294967296 : Int) ≤ (r : Int) + (y1 : Int)
          · go_wp2_with fail
            go_meet
            case rel => exact ⟨r + y1, dreti (by have := HB.out (by omega) HK.out (by omega); omega), dreti (by omega), rfl⟩
          · go_wp2_with fail
            go_roundg (4294967296 - (r + y1))
            case measure => have := hkk.out; omega
            case rel => exact ⟨q - 1, r + y1, HK.out, by omega, by omega, by omega, dreti (by omega), dreti (by omega), rfl⟩
        · obtain ⟨km, hm'⟩ := km (by omega)
          by_cases c2 : 4294967296 * (r : Int) + (d0 : Int) < (m : Int)
          · obtain ⟨hq1, hK'⟩ := HS.out (Or.inr (by omega))
            have HK := Lib.hid hK'
            have t7 : (1 : Int) ≤ (q : Int) := by omega
            clear hK' hq1 t1 HS HE
            by_cases c4 : (4294967296 : Int) ≤ (r : Int) + (y1 : Int)
            · go_wp2_with fail
              go_meet
              case rel => exact ⟨r + y1, dreti (by have := HB.out (by omega) HK.out (by omega); omega), dreti (by omega), rfl⟩
            · go_wp2_with fail
              go_roundg (4294967296 - (r + y1))
              case measure => have := hkk.out; omega
              case rel => exact ⟨q - 1, r + y1, HK.out, by omega, by omega, by omega, dreti (by omega), dreti (by omega), rfl⟩
          · have HE' := Lib.hid (HE.out (by omega))
            clear t1 HS HE HB
            go_wp2_with fail
            go_meet
            case rel => exact ⟨r, dreti (by have := HE'.out; omega), rfl, rfl⟩
    case rest =>
      obtain ⟨r, rfl, rfl, rfl⟩ := hcut
      have kv2 := kv2.out
      clear hK2 hr1 hqy1
      go_wp2
      go_ret2
      refine ⟨dret2 (dreti ?_) (dreti ?_), rfl⟩
      · rw [← hf1.out]; simp only [Int.natCast_add, Int.natCast_mul, Int.cast_ofNat_Int]
      · rw [← hf2.out]; simp only [Int.natCast_ediv, Int.natCast_pow, Int.cast_ofNat_Int]

theorem wrapR (u d q Y : Nat) : IntKind.u64.wrap (IntKind.u64.wrap (IntKind.u64.wrap ((u : Int) * 4294967296) + (d : Int)) - IntKind.u64.wrap ((q : Int) * (Y : Int))) = ((u : Int) * 4294967296 + (d : Int) - (q : Int) * (Y : Int)) % 18446744073709551616 := by
  simp only [IntKind.wrap_u64]
  omega

set_option maxHeartbeats 1000000 in
theorem div64_any (hi lo y : Nat) (hlo : lo < 18446744073709551616) (hy : y < 18446744073709551616) (hh : hi < y) (w : World) :
    Calls Try.prog 52 #[.int .u64 hi, .int .u64 lo, .int .u64 y] w fun e w' => e = .returned (.tuple #[.int .u64 (((hi * 18446744073709551616 + lo) / y : Nat) : Int), .int .u64 (((hi * 18446744073709551616 + lo) % y : Nat) : Int)]) ∧ ∃ n, w' = w.drewN n := by
  rcases Nat.eq_zero_or_pos hi with h0 | h0
  · subst h0
    rw [Nat.zero_mul, Nat.zero_add]
    exact div64_low lo y hlo hy (by omega) w
  · obtain ⟨s, hs, hl, hY1, hY2⟩ := Pl.norm y (by omega) hy
    have hp : 0 < 2 ^ s := Nat.two_pow_pos s
    have hps : (2 : Nat) ^ (64 - s) * 2 ^ s = 18446744073709551616 := by rw [← Nat.pow_add, show 64 - s + s = 64 from by omega]
    obtain ⟨Y, hYe⟩ : ∃ Y, y * 2 ^ s = Y := ⟨_, rfl⟩
    rw [hYe] at hY1 hY2
    obtain ⟨lt, hlt⟩ : ∃ l, lo / 2 ^ (64 - s) = l := ⟨_, rfl⟩
    obtain ⟨hs', hhs⟩ : ∃ h, hi * 2 ^ s = h := ⟨_, rfl⟩
    have hlt' : lt < 2 ^ s := by
      rw [← hlt, Nat.div_lt_iff_lt_mul (Nat.two_pow_pos _), Nat.mul_comm, hps]
      exact hlo
    have hu0 : hs' + 2 ^ s ≤ Y := by
      have := Nat.mul_le_mul_right (2 ^ s) (show hi + 1 ≤ y from hh)
      rw [Nat.add_mul, Nat.one_mul, hhs, hYe] at this
      exact this
    obtain ⟨u, hu⟩ : ∃ u, hs' + lt = u := ⟨_, rfl⟩
    have hU : u < Y := by omega
    obtain ⟨L, hL⟩ : ∃ L, lo * 2 ^ s % 18446744073709551616 = L := ⟨_, rfl⟩
    have hL' : L < 18446744073709551616 := by rw [← hL]; exact Nat.mod_lt _ (by omega)
    have hsum : u * 18446744073709551616 + L = (hi * 18446744073709551616 + lo) * 2 ^ s := by
      have e1 : lo * 2 ^ s / 18446744073709551616 = lt := by rw [← hps, Nat.mul_div_mul_right _ _ hp, hlt]
      have e2 := Nat.div_add_mod (lo * 2 ^ s) 18446744073709551616
      rw [e1, hL] at e2
      rw [Nat.add_mul, Nat.mul_right_comm, hhs, ← hu]
      omega
    obtain ⟨y1, hy1⟩ : ∃ x, Y / 4294967296 = x := ⟨_, rfl⟩
    obtain ⟨y0, hy0⟩ : ∃ x, Y % 4294967296 = x := ⟨_, rfl⟩
    obtain ⟨d1, hd1⟩ : ∃ x, L / 4294967296 = x := ⟨_, rfl⟩
    obtain ⟨d0, hd0⟩ : ∃ x, L % 4294967296 = x := ⟨_, rfl⟩
    have hYs : Y = y1 * 4294967296 + y0 := by omega
    have hLs : L = d1 * 4294967296 + d0 := by omega
    have by1 : 2147483648 ≤ y1 := by omega
    have by0 : y0 < 4294967296 := by omega
    have bd1 : d1 < 4294967296 := by omega
    have bd0 : d0 < 4294967296 := by omega
    have hUu : u < y1 * 4294967296 + y0 := by omega
    obtain ⟨D, hD⟩ : ∃ x, (u * 4294967296 + d1) / (y1 * 4294967296 + y0) = x := ⟨_, rfl⟩
    obtain ⟨v, hv⟩ : ∃ x, (u * 4294967296 + d1) % (y1 * 4294967296 + y0) = x := ⟨_, rfl⟩
    have hvl : v < y1 * 4294967296 + y0 := by rw [← hv]; exact Nat.mod_lt _ (by omega)
    obtain ⟨D0, hD0⟩ : ∃ x, (v * 4294967296 + d0) / (y1 * 4294967296 + y0) = x := ⟨_, rfl⟩
    obtain ⟨v2, hv2⟩ : ∃ x, (v * 4294967296 + d0) % (y1 * 4294967296 + y0) = x := ⟨_, rfl⟩
    have hDl : D < 4294967296 := by rw [← hD]; exact Pl.digit_lt u _ d1 hUu bd1
    have hD0l : D0 < 4294967296 := by rw [← hD0]; exact Pl.digit_lt v _ d0 hvl bd0
    have k1 := Pl.kn_start u y1 y0 d1 bd1 by1 by0 hUu
    have k2 := Pl.kn_start v y1 y0 d0 bd0 by1 by0 hvl
    obtain ⟨t1, t2⟩ := Pl.two_digits u (y1 * 4294967296 + y0) d1 d0 (by omega)
    rw [hD, hv, hD0] at t1
    rw [hv, hv2] at t2
    have hn : u * 18446744073709551616 + d1 * 4294967296 + d0 = (hi * 18446744073709551616 + lo) * 2 ^ s := by rw [Nat.add_assoc, ← hLs]; exact hsum
    obtain ⟨c1, c2⟩ := Pl.unscale (hi * 18446744073709551616 + lo) y (2 ^ s) hp
    rw [hn, ← hYs, ← hYe] at t1 t2
    rw [c1] at t1
    rw [← t2] at c2
    have q0u := Nat.div_mul_le_self u y1
    have q1v := Nat.div_mul_le_self v y1
    have ru := Pl.kn_r0 u y1
    have rv := Pl.kn_r0 v y1
    have mu := Nat.mod_lt u (show 0 < y1 by omega)
    have mv := Nat.mod_lt v (show 0 < y1 by omega)
    have du := Nat.div_le_self u y1
    have dv := Nat.div_le_self v y1
    have eY : ((y : Int) * 2 ^ s) = (Y : Int) := by rw [← hYe]; simp only [Int.natCast_mul, Int.natCast_pow, Int.cast_ofNat_Int]
    have eH : ((hi : Int) * 2 ^ s) = (hs' : Int) := by rw [← hhs]; simp only [Int.natCast_mul, Int.natCast_pow, Int.cast_ofNat_Int]
    have eL : ((lo : Int) * 2 ^ s) = ((lo * 2 ^ s : Nat) : Int) := by simp only [Int.natCast_mul, Int.natCast_pow, Int.cast_ofNat_Int]
    have eT : ((lo : Int) / 2 ^ (64 - s)) = (lt : Int) := by rw [← hlt]; simp only [Int.natCast_ediv, Int.natCast_pow, Int.cast_ofNat_Int]
    refine (div64_high hi lo y s Y y1 y0 u L d1 d0 (u / y1) (u / y1 * y1) (u - u / y1 * y1) h0 hlo hy hh hs hl hY1 hY2 ?_ ?_ ?_ by1 (by omega) by0 ?_ hU ?_ hL' ?_ ?_ bd1 bd0 ?_ ?_ q0u ?_ k1 (by omega) hYs D v hD hDl
      (v / y1) (v / y1 * y1) (v - v / y1 * y1) D0 v2 ?_ (by omega) ?_ ?_ q1v ?_ k2 (by omega) hD0 hD0l ?_ t1 c2 w).mono fun e w' ⟨he, hw⟩ => ⟨he, 0, hw.symm⟩
    · rw [eY]; exact wrapN _ hY2
    · rw [← hy1]; exact (Int.natCast_ediv _ _).symm
    · rw [maskN _ hY2, hy0]
    · rw [eH, eT, wrapN _ (by omega), bits_or_u64_nat _ _ (by omega) (by omega), nat_join s _ _ (by rw [← hhs]; exact Nat.mul_mod_left _ _) hlt', hu]
    · rw [eL, wrapM, hL]
    · rw [← hd1]; exact (Int.natCast_ediv _ _).symm
    · rw [maskN _ hL', hd0]
    · rw [← Int.natCast_ediv]; exact wrapN _ (by omega)
    · rw [mulN]; exact wrapN _ (by omega)
    · exact (Int.natCast_sub q0u).symm
    · show _ = _
      rw [wrapR, Pl.digit_rest u d1 D Y (by rw [← hD, hYs]) (by omega) hY2, ← hv, hYs]
    · show _ = _
      rw [← Int.natCast_ediv]; exact wrapN _ (by omega)
    · show _ = _
      rw [mulN]; exact wrapN _ (by omega)
    · exact (Int.natCast_sub q1v).symm
    · show _ = _
      rw [wrapR, Pl.digit_rest v d0 D0 Y (by rw [← hD0, hYs]) (by omega) hY2, ← hv2, hYs]

#print axioms div64_any
end Go.Proofs.Ytnlfkafebbfenaa
