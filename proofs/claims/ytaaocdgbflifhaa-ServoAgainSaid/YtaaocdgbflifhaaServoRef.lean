/- Contracts of the reference servo's functions: Check, New, ratio, part. -/
import Derived.Test.YtaaocdgbflifhaaRefFloor
import Derived.Test.YtaaocdgbflifhaaServo
namespace Go.Proofs.Ytaaocdgbflifhaa
open Go.RowKit Go.Lib

theorem err_cases (c : Pl.Conf) : (c.err = 0 ∧ (0 ≤ c.kp ∧ c.kp ≤ 1048576) ∧ (0 ≤ c.ki ∧ c.ki ≤ 1048576) ∧ (1 ≤ c.lim ∧ c.lim ≤ 500000) ∧ (0 ≤ c.sf ∧ c.sf ≤ 1125899906842624) ∧ (0 ≤ c.sl ∧ c.sl ≤ 1125899906842624)) ∨
    (c.err = 3 ∧ ¬ ((0 ≤ c.kp ∧ c.kp ≤ 1048576) ∧ (0 ≤ c.ki ∧ c.ki ≤ 1048576) ∧ (1 ≤ c.lim ∧ c.lim ≤ 500000) ∧ (0 ≤ c.sf ∧ c.sf ≤ 1125899906842624) ∧ (0 ≤ c.sl ∧ c.sl ≤ 1125899906842624))) := by
  cases h : c.ok with
  | true => exact .inl ⟨Pl.Conf.err_yes h, Pl.Conf.ok_iff.1 h⟩
  | false => exact .inr ⟨Pl.Conf.err_no h, fun k => by rw [Pl.Conf.ok_iff.2 k] at h; cases h⟩

theorem clamp_eq {n lo hi : Int} (h : lo ≤ hi) : (if n < lo then lo else if hi < n then hi else n) = Pl.clampI n lo hi := by
  unfold Pl.clampI
  split
  · omega
  · split <;> omega
theorem tclamp_any (n lo hi : Int) (h : lo ≤ hi) (w : World) :
    Calls Try.prog 34 #[.int .i64 n, .int .i64 lo, .int .i64 hi] w fun e w' => e = .returned (.int .i64 (Pl.clampI n lo hi)) ∧ w = w' := by
  have := rclamp_any n lo hi w
  rwa [clamp_eq h] at this

theorem tcheck_any (c : Pl.Conf) (w : World) :
    Calls Try.prog 13 #[confV c] w fun e w' => e = .returned (.int .i64 c.err) ∧ Below w.heap.size w w' := by
  go_enter Try.func13, Try.ntmps13
  go_wp2
  all_goals (go_ret; refine ⟨congrArg Ending.returned (reti_ ?_), (Below.refl _ _).alloc (Nat.le_refl _) _⟩)
  all_goals (rcases err_cases c with ⟨hk, r⟩ | ⟨hk, r⟩ <;> rw [hk] <;> omega)

theorem tratio_any (o p : Int) (w : World) (h : Pl.argsOk o p = true) :
    Calls Try.prog 33 #[.int .i64 o, .int .i64 p] w fun e w' => e = .returned (.int .i64 (Pl.slopeI o p)) ∧ w = w' := by
  obtain ⟨⟨a1, a2⟩, a3, a4⟩ := Pl.argsOk_iff.1 h
  clear h
  have hm := fun W => rmuldiv_any o 1000000000 p (by omega) (by omega) (by omega) (by omega) (by omega) (by omega) W
  cases hf : Pl.fit (Pl.md o 1000000000 p) with
  | true =>
    have hk := Pl.kept_yes hf
    rw [hf, hk] at hm
    have H := Lib.hid hm
    clear hm hf hk
    go_enter Try.func33, Try.ntmps33
    go_wp2_with (first | (go_at_call 44; refine (H.out _).mono ?_; rintro e w' ⟨rfl, rfl⟩) | (go_at_call 34; refine (tclamp_any _ _ _ (by omega) _).mono ?_; rintro e w' ⟨rfl, rfl⟩))
    go_ret
    exact ⟨rfl, rfl⟩
  | false =>
    have hs := Pl.slope_nofit o p (by omega) hf
    have hk : Pl.kept (Pl.md o 1000000000 p) = 0 := by simp [Pl.kept, hf]
    have hn := Pl.fit_no.1 hf
    rw [hf, hk] at hm
    rw [hs]
    have H := Lib.hid hm
    have hz : o ≠ 0 := by
      intro h0
      subst h0
      have : Pl.md 0 1000000000 p = 0 := by unfold Pl.md; simp
      omega
    clear hm hf hs hk hn
    by_cases h0 : 0 < o
    · rw [if_pos h0]
      go_enter Try.func33, Try.ntmps33
      go_wp2_with (first | (go_at_call 44; refine (H.out _).mono ?_; rintro e w' ⟨rfl, rfl⟩) | (go_at_call 34; refine (tclamp_any _ _ _ (by omega) _).mono ?_; rintro e w' ⟨rfl, rfl⟩))
      go_ret
      exact ⟨rfl, rfl⟩
    · rw [if_neg h0]
      have h1 : o < 0 := by omega
      go_enter Try.func33, Try.ntmps33
      go_wp2_with (first | (go_at_call 44; refine (H.out _).mono ?_; rintro e w' ⟨rfl, rfl⟩) | (go_at_call 34; refine (tclamp_any _ _ _ (by omega) _).mono ?_; rintro e w' ⟨rfl, rfl⟩))
      go_ret
      exact ⟨rfl, rfl⟩
theorem tcheck_yes (c : Pl.Conf) (hc : c.ok = true) (w : World) :
    Calls Try.prog 13 #[confV c] w fun e w' => e = .returned (.int .i64 0) ∧ Below w.heap.size w w' := by
  have := tcheck_any c w
  rwa [Pl.Conf.err_yes hc] at this
theorem tcheck_no (c : Pl.Conf) (hc : c.ok = false) (w : World) :
    Calls Try.prog 13 #[confV c] w fun e w' => e = .returned (.int .i64 3) ∧ Below w.heap.size w w' := by
  have := tcheck_any c w
  rwa [Pl.Conf.err_no hc] at this

theorem tnew_no (c : Pl.Conf) (hc : c.ok = false) (w : World) :
    Calls Try.prog 20 #[confV c] w fun e w' => e = .returned (.pointer none) ∧ Below w.heap.size w w' := by
  have H := Lib.hid hc
  clear hc
  go_enter Try.func20, Try.ntmps20
  go_wp2_with (go_at_call 13; refine (tcheck_no c H.out _).mono ?_; rintro e w1 ⟨rfl, hb⟩)
  go_ret
  exact ⟨rfl, ((Below.refl _ _).alloc (Nat.le_refl _) _).trans (hb.mono (by simp))⟩

theorem tnew_yes (c : Pl.Conf) (hc : c.ok = true) (w : World) :
    Calls Try.prog 20 #[confV c] w fun e w' => ∃ b, e = .returned (.pointer (some ⟨b, 0, none⟩)) ∧ w.heap.size ≤ b ∧ Blk w' b 60 (sv c ⟨0, 0, 0⟩) ∧ Below w.heap.size w w' := by
  have H := Lib.hid hc
  clear hc
  go_enter Try.func20, Try.ntmps20
  go_wp2_with (go_at_call 13; refine (tcheck_yes c H.out _).mono ?_; rintro e w1 ⟨rfl, hb⟩; obtain ⟨hcl, hfr⟩ := bcell hb; have hz : w.heap.size + 1 ≤ w1.heap.size := by have := hb.size; simp at this; omega)
  go_ret
  exact ⟨w1.heap.size, rfl, by omega, Blk.new _ _ _, (((Below.refl _ _).alloc (Nat.le_refl _) _).trans (hb.mono (by simp))).alloc (by omega) _⟩

theorem tpart_any (k e : Int) (w : World) (h0 : 0 ≤ k) (h1 : k ≤ 1048576) (h2 : -1000000000 ≤ e) (h3 : e ≤ 1000000000) :
    Calls Try.prog 35 #[.int .i64 k, .int .i64 e] w fun e' w' => e' = .returned (.int .i64 (Pl.gainI k e)) ∧ w = w' := by
  obtain ⟨m1, m2⟩ := Pl.mul_le_both h0 h1 (B := 1000000000) (by omega) h3
  obtain ⟨m, hm⟩ : ∃ m, k * e = m := ⟨_, rfl⟩
  rw [hm] at m1 m2
  have kw : wrap64 (k * e) = m := by rw [hm]; exact IntWalk.wrap64_in m ⟨by omega, by omega⟩
  have hg : Pl.gainI k e = m / 65536 := by unfold Pl.gainI Pl.md; rw [hm]
  have hf := fun W => rfloor_any m 65536 (by omega) (by omega) (by omega) (by omega) W
  have H := Lib.hid hf
  rw [hg]
  clear hf hg hm h0 h1 h2 h3
  go_enter Try.func35, Try.ntmps35
  go_wp2_with (go_at_call 45; refine (H.out _).mono ?_; rintro e w' ⟨rfl, rfl⟩)
  go_ret
  exact ⟨rfl, rfl⟩

theorem tfreq_any (b : Nat) (c : Pl.Conf) (s : Pl.St) (w : World) (h : Blk w b 60 (sv c s)) :
    Calls Try.prog 24 #[.pointer (some ⟨b, 0, none⟩)] w fun e w' => e = .returned (.int .i64 s.f) ∧ w = w' := by
  have h7 := h.cell 7
  go_enter Try.func24, Try.ntmps24
  go_wp2
  go_ret
  exact ⟨rfl, rfl⟩

theorem tsamples_any (b : Nat) (c : Pl.Conf) (s : Pl.St) (w : World) (h : Blk w b 60 (sv c s)) :
    Calls Try.prog 26 #[.pointer (some ⟨b, 0, none⟩)] w fun e w' => e = .returned (.int .i64 s.n) ∧ w = w' := by
  have h6 := h.cell 6
  go_enter Try.func26, Try.ntmps26
  go_wp2
  go_ret
  exact ⟨rfl, rfl⟩

end Go.Proofs.Ytaaocdgbflifhaa
