/- The walk of TopLocks. -/
import Derived.Test.YtaaocdgbflifhaaServoSample
import Derived.Test.YtaaocdgbflifhaaLockFns
import Derived.Test.YtaaocdgbflifhaaOpen
namespace Go.Proofs.Ytaaocdgbflifhaa
namespace Pl
def lockC : Conf := ⟨65536, 0, 500000, 0, 0⟩
/-- the law, in integers: the frequency that a servo with the gain one sets, and what is left after the span -/
theorem locks {o p : Int} (h1 : 1 ≤ p) (h2 : p ≤ 1099511627776) (h3 : -(p / 4000) ≤ o) (h4 : o ≤ p / 4000) :
    ∃ F, -500000 ≤ F ∧ F ≤ 500000 ∧ stepR lockC ⟨0, 0, 0⟩ o p = ⟨1, F, 0⟩ ∧ stepS lockC ⟨0, 0, 0⟩ o p = ⟨0, 1, F⟩ ∧ -p ≤ part p F ∧ part p F ≤ p ∧ 0 ≤ o - part p F ∧ o - part p F ≤ p / 1000000000 + 1 := by
  obtain ⟨E, hE⟩ : ∃ E, o * 1000000000 / p = E := ⟨_, rfl⟩
  have hp : 0 < p := by omega
  have e1 : p * E ≤ o * 1000000000 := by rw [← hE]; exact Int.mul_ediv_self_le (by omega)
  have e2 : o * 1000000000 < p * E + p := by rw [← hE]; exact Int.lt_mul_ediv_self_add hp
  have b1 : -250000 ≤ E := by
    rcases Int.lt_or_le E (-250000) with c | c
    · exfalso
      have := Int.mul_le_mul_of_nonneg_left (show E ≤ -250001 by omega) (show 0 ≤ p by omega)
      omega
    · exact c
  have b2 : E ≤ 250000 := by
    rcases Int.lt_or_le 250000 E with c | c
    · exfalso
      have := Int.mul_le_mul_of_nonneg_left (show 250001 ≤ E by omega) (show 0 ≤ p by omega)
      omega
    · exact c
  have hs : slopeI o p = E := by
    unfold slopeI md
    rw [hE]
    exact clamp_id (by omega) (by omega)
  have hg : gainI 65536 E = E := by
    unfold gainI md
    rw [Int.mul_comm]
    exact Int.mul_ediv_cancel E (by omega)
  have hg0 : gainI 0 E = 0 := by unfold gainI md; simp
  have hG : newG lockC ⟨0, 0, 0⟩ o p = 0 := by
    unfold newG
    rw [hs]
    show clampI (0 + gainI 0 E) (-500000) 500000 = 0
    rw [hg0]
    rfl
  have hF : newF lockC ⟨0, 0, 0⟩ o p = E := by
    unfold newF
    rw [hs, hG]
    show clampI (gainI 65536 E + 0) (-500000) 500000 = E
    rw [hg]
    exact (congrArg (fun z => clampI z (-500000) 500000) (Int.add_zero E)).trans (clamp_id (by omega) (by omega))
  have ha : argsOk o p = true := argsOk_iff.2 ⟨⟨by omega, by omega⟩, by omega, by omega⟩
  have hst : isStep lockC ⟨0, 0, 0⟩ o = false := rfl
  obtain ⟨D, hD⟩ : ∃ D, part p E = D := ⟨_, rfl⟩
  have d1 : 1000000000 * D ≤ p * E := by rw [← hD]; exact Int.mul_ediv_self_le (by omega)
  have d2 : p * E < 1000000000 * D + 1000000000 := by rw [← hD]; exact Int.lt_mul_ediv_self_add (by omega)
  have hin := part_in (e := p) (p := E) (by omega) (by omega) (by omega)
  refine ⟨E, by omega, by omega, ?_, ?_, hin.1, hin.2, ?_, ?_⟩
  · unfold stepR; rw [if_pos ha, hst, hF]; rfl
  · unfold stepS; rw [if_pos ha, hst, hF, hG]; rfl
  · rw [hD]; omega
  · rw [hD]; omega
end Pl
open Go.RowKit Go.Lib

theorem tdiv_bd {p : Int} (b1 : -9223372036854775808 ≤ p) (b2 : p ≤ 9223372036854775807) : -2305843009213694 ≤ p.tdiv 4000 ∧ p.tdiv 4000 ≤ 2305843009213694 := by
  rcases Int.lt_or_le p 0 with h | h
  · obtain ⟨q, rfl⟩ : ∃ q, p = -q := ⟨-p, by omega⟩
    rw [Int.neg_tdiv, Int.tdiv_eq_ediv_of_nonneg (by omega)]
    omega
  · rw [Int.tdiv_eq_ediv_of_nonneg h]
    omega

set_option maxRecDepth 100000 in
theorem topLocks_no (o p : Int) (w : World) (h : p < 1 ∨ 1099511627776 < p ∨ o < -(Int.tdiv p 4000) ∨ Int.tdiv p 4000 < o) (b1 : -9223372036854775808 ≤ p) (b2 : p ≤ 9223372036854775807) :
    Calls Try.prog 11 #[.int .i64 o, .int .i64 p] w fun e w' => e = .returned (.bool true) ∧ Below w.heap.size w w' := by
  obtain ⟨hq1, hq2⟩ := tdiv_bd b1 b2
  have kw1 : IntKind.i64.wrap (p.tdiv 4000) = p.tdiv 4000 := IntWalk.i64_in _ (by omega)
  have kw2 : IntKind.i64.wrap (-p.tdiv 4000) = -p.tdiv 4000 := IntWalk.i64_in _ (by omega)
  go_enter Try.func11, Try.ntmps11
  go_wp2
  all_goals (go_ret; exact ⟨rfl, Below.refl _ _⟩)

set_option maxRecDepth 100000 in
theorem topLocks_yes (o p : Int) (w : World) (h1 : 1 ≤ p) (h2 : p ≤ 1099511627776) (h3 : -(Int.tdiv p 4000) ≤ o) (h4 : o ≤ Int.tdiv p 4000) :
    Calls Try.prog 11 #[.int .i64 o, .int .i64 p] w fun e w' => e = .returned (.bool true) ∧ Below w.heap.size w w' := by
  have q1 : p.tdiv 4000 = p / 4000 := Int.tdiv_eq_ediv_of_nonneg (by omega)
  have q2 : p.tdiv 1000000000 = p / 1000000000 := Int.tdiv_eq_ediv_of_nonneg (by omega)
  have kw1 : IntKind.i64.wrap (p.tdiv 4000) = p.tdiv 4000 := IntWalk.i64_in _ (by omega)
  have kw2 : IntKind.i64.wrap (-p.tdiv 4000) = -p.tdiv 4000 := IntWalk.i64_in _ (by omega)
  have kw3 : IntKind.i64.wrap (p.tdiv 1000000000) = p.tdiv 1000000000 := IntWalk.i64_in _ (by omega)
  obtain ⟨F, f1, f2, hR, hS, d1, d2, d3, d4⟩ := Pl.locks h1 h2 (by rw [q1] at h3; exact h3) (by rw [q1] at h4; exact h4)
  obtain ⟨D, hD⟩ : ∃ D, Pl.part p F = D := ⟨_, rfl⟩
  rw [hD] at d1 d2 d3 d4
  have hc : Pl.lockC.ok = true := by kernel_rfl
  have h0 : (⟨0, 0, 0, 0, 0, 0⟩ : Pl.CS).ok = true := by decide
  have hx : (⟨0, 0, F, 0, 0, 0⟩ : Pl.CS).ok = true := Pl.CS.ok_iff.2 ⟨by simp, by simp, by simp, ⟨f1, f2⟩, by simp, by simp, by simp, by simp⟩
  have hE : Pl.freqE ⟨0, 0, 0, 0, 0, 0⟩ 0 F = 0 := by
    unfold Pl.freqE
    rw [if_pos (Pl.inn_iff.2 ⟨f1, f2⟩)]
    decide
  have hFS : Pl.freqS ⟨0, 0, 0, 0, 0, 0⟩ 0 F = ⟨0, 0, F, 0, 0, 0⟩ := by
    unfold Pl.freqS
    rw [if_pos hE]
    rfl
  have hsh : Pl.shown ⟨0, 0, F, 0, 0, 0⟩ (p - 0) = p + D := by
    have e : p - 0 = p := by omega
    rw [e]
    unfold Pl.shown
    have l0 : Pl.slewLen ⟨0, 0, F, 0, 0, 0⟩ = 0 := by unfold Pl.slewLen; simp
    rw [l0, if_pos (by omega), Pl.part_zero]
    show 0 + (0 + 0) + (p - 0) + Pl.part (p - 0) F = p + D
    rw [e, hD]
    omega
  have hNE : Pl.nowE ⟨0, 0, F, 0, 0, 0⟩ p = 0 := by
    unfold Pl.nowE
    rw [if_neg (by show ¬ p < 0; omega), if_neg (by omega)]
    show (if Pl.inn (Pl.shown ⟨0, 0, F, 0, 0, 0⟩ (p - 0)) 4503599627370496 = true then (0 : Int) else 3) = 0
    rw [hsh, if_pos (Pl.inn_iff.2 ⟨by omega, by omega⟩)]
  have hNT : Pl.nowT ⟨0, 0, F, 0, 0, 0⟩ p = p + D := by
    unfold Pl.nowT
    rw [if_pos hNE]
    exact hsh
  have kw4 : IntKind.i64.wrap (p + o) = p + o := IntWalk.i64_in _ (by omega)
  have kw5 : IntKind.i64.wrap (p + o - (p + D)) = p + o - (p + D) := IntWalk.i64_in _ (by omega)
  have S1 := Lib.hid (fun W => snew_yes Pl.lockC hc W)
  have S2 := Lib.hid (fun b W (k : Blk W b 56 (sv Pl.lockC ⟨0, 0, 0⟩)) => ssample_as b Pl.lockC ⟨0, 0, 0⟩ o p 1 F 0 ⟨0, 1, F⟩ (Lib.hid ⟨hR, hS⟩) W k hc (Pl.inv_zero hc) (by show (0 : Int) ≤ 1000000; omega))
  have S3 := Lib.hid (fun W => cnew_yes 0 0 h0 W)
  have S4 := Lib.hid (fun b W (k : Blk W b 70 (csA ⟨0, 0, 0, 0, 0, 0⟩)) => cfreq_any b ⟨0, 0, 0, 0, 0, 0⟩ 0 F W k h0)
  rw [hE, hFS] at S4
  have S5 := Lib.hid (fun b W (k : Blk W b 70 (csA ⟨0, 0, F, 0, 0, 0⟩)) => cnow_any b ⟨0, 0, F, 0, 0, 0⟩ p W k hx)
  rw [hNE, hNT] at S5
  have ht : decide (p + o - (p + D) ≤ p / 1000000000 + 1) = true := by rw [show p + o - (p + D) = o - D by omega]; exact decide_eq_true d4
  clear hR hS hD hc h0 hx hE hFS hsh hNE hNT
  go_enter Try.func11, Try.ntmps11
  go_wp2_with fail
  refine (S1.out _).mono ?_
  rintro _ w1 ⟨b1, rfl, hb1, hk1, l1⟩
  go_wp2_with fail
  refine (S3.out _).mono ?_
  rintro _ w2 ⟨b2, rfl, hb2, hk2, l2⟩
  have hk1 := hk1.below_ l2
  have l := bel_on l1 l2
  have hbw : w.heap.size ≤ b2 := Nat.le_trans l1.size hb2
  have hne : b2 ≠ b1 := Blk.ne_ hk2 hk1 (by decide)
  clear l1 l2 hb2
  go_wp2_with fail
  refine (S2.out b1 _ hk1).mono ?_
  rintro _ w3 ⟨rfl, l3⟩
  have hk2 := hk2.grown l3.2 (fun e => hne (Option.some.inj e))
  have l := Below.only l l3.2 hb1 l.size
  clear l3 hk1
  go_wp2_with fail
  refine (S4.out b2 _ (hk2.alloc _)).mono ?_
  rintro _ w4 ⟨rfl, l4⟩
  have l := Below.only (bel_more l _) l4.2 hbw (bel_more l _).size
  have hk2 := l4.1
  clear l4
  go_wp2_with fail
  refine (S5.out b2 _ hk2).mono ?_
  rintro _ w5 ⟨rfl, l5⟩
  have l := bel_on l l5
  clear l5
  go_wp2
  go_ret
  exact ⟨rfl, l⟩

theorem topLocks_walk (o p : Int) (w : World) (_h1 : (Lit.int .i64 o).wf = true) (h2 : (Lit.int .i64 p).wf = true) :
    Calls Try.prog 11 #[.int .i64 o, .int .i64 p] w fun e w' => e = .returned (.bool true) ∧ Below w.heap.size w w' := by
  by_cases h : p < 1 ∨ 1099511627776 < p ∨ o < -(Int.tdiv p 4000) ∨ Int.tdiv p 4000 < o
  · exact topLocks_no o p w h (int_bd h2).1 (int_bd h2).2
  · exact topLocks_yes o p w (by omega) (by omega) (by omega) (by omega)
end Go.Proofs.Ytaaocdgbflifhaa
