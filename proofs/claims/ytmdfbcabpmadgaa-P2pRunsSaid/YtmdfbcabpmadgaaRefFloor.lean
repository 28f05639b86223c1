/- The contracts of the reference's Floor and Clamp. -/
import Derived.Test.YtmdfbcabpmadgaaRefMd
namespace Go.Proofs.Ytmdfbcabpmadgaa
open Go.RowKit Go.Lib

theorem rfloor_any (a b : Int) (ha : -9223372036854775808 ≤ a) (ha' : a ≤ 9223372036854775807) (hb : 0 < b) (hb' : b ≤ 9223372036854775807) (w : World) :
    Calls Try.prog 50 #[.int .i64 a, .int .i64 b] w fun e w' => e = .returned (.tuple #[.int .i64 (a / b), .bool true]) ∧ w = w' := by
  have hm := rmuldiv_any a 1 b ha ha' (by omega) (by omega) hb hb'
  have e : Pl.md a 1 b = a / b := by unfold Pl.md; rw [Int.mul_one]
  have hf : Pl.fit (a / b) = true := by
    refine Pl.fit_yes ?_ ?_
    · rw [Int.le_ediv_iff_mul_le hb]
      have := Int.mul_le_mul_of_nonneg_left (show 1 ≤ b by omega) (show (0 : Int) ≤ 9223372036854775808 by omega)
      rw [Int.neg_mul]
      omega
    · rcases Int.lt_or_le a 0 with h | h
      · have := Int.ediv_neg_of_neg_of_pos h hb
        omega
      · have := Int.ediv_le_self b h
        omega
  rw [e, hf, Pl.kept_yes hf] at hm
  have H := Lib.hid hm
  clear hm e hf
  go_enter Try.func50, Try.ntmps50
  go_wp2_with (go_at_call 41; refine (H.out _).mono ?_; rintro e w' ⟨rfl, rfl⟩)
  go_ret2
  exact ⟨rfl, rfl⟩

theorem rclamp_any (n lo hi : Int) (w : World) :
    Calls Try.prog 42 #[.int .i64 n, .int .i64 lo, .int .i64 hi] w fun e w' => e = .returned (.int .i64 (if n < lo then lo else if hi < n then hi else n)) ∧ w = w' := by
  by_cases h1 : n < lo
  · rw [if_pos h1]
    go_enter Try.func42, Try.ntmps42
    go_wp2
    go_ret
    exact ⟨rfl, rfl⟩
  · by_cases h2 : hi < n
    · rw [if_neg h1, if_pos h2]
      go_enter Try.func42, Try.ntmps42
      go_wp2
      go_ret
      exact ⟨rfl, rfl⟩
    · rw [if_neg h1, if_neg h2]
      go_enter Try.func42, Try.ntmps42
      go_wp2
      go_ret
      exact ⟨rfl, rfl⟩
#print axioms rfloor_any
end Go.Proofs.Ytmdfbcabpmadgaa
