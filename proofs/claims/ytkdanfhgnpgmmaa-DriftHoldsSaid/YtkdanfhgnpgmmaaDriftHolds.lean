/- The walk of DriftHolds. -/
import Derived.Test.YtkdanfhgnpgmmaaDriftAwake
import Derived.Test.YtkdanfhgnpgmmaaOpen
import Derived.Test.YtkdanfhgnpgmmaaLaw
import Derived.Deep.DeepCutAuto
namespace Go.Proofs.Ytkdanfhgnpgmmaa
open Go.RowKit Go.Lib

/-- The plain law: what a clock counts of a true duration bounds it. -/
theorem holds_lo {d ppb tol raw : Int} (hd : 0 ≤ d) (ht : 0 ≤ tol) (ht2 : tol ≤ 500000) (h1 : ppb ≤ tol) (hr : (raw - 1) * 1000000000 < d * (1000000000 + ppb)) : Pl.md (raw - 1) 1000000000 (1000000000 + tol) + 1 ≤ d := by
  unfold Pl.md
  have h : (raw - 1) * 1000000000 / (1000000000 + tol) < d := by
    rw [Int.ediv_lt_iff_lt_mul (by omega)]
    have := Int.mul_le_mul_of_nonneg_left h1 hd
    rw [Int.mul_add] at hr ⊢
    omega
  omega
theorem holds_hi {d ppb tol raw : Int} (hd : 0 ≤ d) (ht : 0 ≤ tol) (ht2 : tol ≤ 500000) (h1 : -tol ≤ ppb) (hr : d * (1000000000 + ppb) < (raw + 1) * 1000000000) : d ≤ - Pl.md (-(raw + 1)) 1000000000 (1000000000 - tol) - 1 := by
  unfold Pl.md
  have h : -(raw + 1) * 1000000000 / (1000000000 - tol) < -d := by
    rw [Int.ediv_lt_iff_lt_mul (by omega)]
    have := Int.mul_le_mul_of_nonneg_left h1 hd
    rw [Int.neg_mul, Int.neg_mul]
    rw [Int.mul_add] at hr
    rw [Int.mul_sub]
    have e : d * -tol = -(d * tol) := Int.mul_neg _ _
    omega
  omega

/-- the parts of a nanosecond that a clock has counted -/
theorem holds_more {d ppb : Int} (hd : 0 ≤ d) (hd2 : d ≤ 1125899906842624) (h1 : -500000 ≤ ppb) (h2 : ppb ≤ 500000) {m l : Int} (hm : Pl.md d ppb 1000000000 = m) (hl : Pl.md (-d) ppb 1000000000 = l) :
    m * 1000000000 ≤ d * ppb ∧ d * ppb < (m + 1) * 1000000000 ∧ l * 1000000000 ≤ -(d * ppb) ∧ -(d * ppb) < (l + 1) * 1000000000 ∧ -d ≤ m ∧ m ≤ d ∧ -d ≤ l ∧ l ≤ d := by
  unfold Pl.md at hm hl
  rw [Int.neg_mul] at hl
  have e1 := Int.mul_ediv_self_le (x := d * ppb) (k := 1000000000) (by omega)
  have e2 := Int.lt_mul_ediv_self_add (x := d * ppb) (k := 1000000000) (by omega)
  have e3 := Int.mul_ediv_self_le (x := -(d * ppb)) (k := 1000000000) (by omega)
  have e4 := Int.lt_mul_ediv_self_add (x := -(d * ppb)) (k := 1000000000) (by omega)
  have k1 := Int.mul_le_mul_of_nonneg_left h1 hd
  have k2 := Int.mul_le_mul_of_nonneg_left h2 hd
  rw [hm] at e1 e2
  rw [hl] at e3 e4
  refine ⟨by omega, by omega, by omega, by omega, by omega, by omega, by omega, by omega⟩
theorem holds_raw {d ppb tol m l raw : Int} (hd : 0 ≤ d) (hd2 : d ≤ 1125899906842624) (ht : 0 ≤ tol) (ht2 : tol ≤ 500000) (h1 : -tol ≤ ppb) (h2 : ppb ≤ tol) (hm : Pl.md d ppb 1000000000 = m) (hl : Pl.md (-d) ppb 1000000000 = l)
    (hr1 : d + m ≤ raw) (hr2 : raw ≤ if m = -l then d + m else d + m + 1) : Pl.eok raw tol = true ∧ Pl.lst raw tol ≤ d ∧ d ≤ Pl.mst raw tol := by
  obtain ⟨e1, e2, e3, e4, e5, e6, e7, e8⟩ := holds_more hd hd2 (by omega) (by omega) hm hl
  have hx : (raw - 1) * 1000000000 < d * (1000000000 + ppb) ∧ d * (1000000000 + ppb) < (raw + 1) * 1000000000 := by
    rw [Int.mul_add]
    split at hr2 <;> omega
  refine ⟨Pl.eok_iff.2 ⟨by omega, by split at hr2 <;> omega, ht, ht2⟩, ?_, ?_⟩
  · have := holds_lo hd ht ht2 h2 hx.1
    unfold Pl.lst
    omega
  · have := holds_hi hd ht ht2 h1 hx.2
    unfold Pl.mst
    exact this

set_option maxRecDepth 100000 in
theorem driftHolds_no (d ppb tol : Int) (w : World) (h : d < 0 ∨ 1125899906842624 < d ∨ tol < 0 ∨ 500000 < tol ∨ ppb < -tol ∨ tol < ppb) (h1 : -9223372036854775808 ≤ tol) (h2 : tol ≤ 9223372036854775807) :
    Calls Try.prog 6 #[.int .i64 d, .int .i64 ppb, .int .i64 tol] w fun e w' => e = .returned (.bool true) ∧ Below w.heap.size w w' := by
  go_enter Try.func6, Try.ntmps6
  go_wp2_with (go_at_call 15; refine (dawake_any _).mono ?_; rintro e w1 ⟨rfl, l1⟩)
  all_goals (go_ret; exact ⟨rfl, l1⟩)

set_option maxRecDepth 100000 in
theorem driftHolds_yes (d ppb tol : Int) (w : World) (h1 : 0 ≤ d) (h2 : d ≤ 1125899906842624) (h3 : 0 ≤ tol) (h4 : tol ≤ 500000) (h5 : -tol ≤ ppb) (h6 : ppb ≤ tol) :
    Calls Try.prog 6 #[.int .i64 d, .int .i64 ppb, .int .i64 tol] w fun e w' => e = .returned (.bool true) ∧ Below w.heap.size w w' := by
  have M1 := fun W => rmuldiv_any d ppb 1000000000 (by omega) (by omega) (by omega) (by omega) (by omega) (by omega) W
  have M2 := fun W => rmuldiv_any (-d) ppb 1000000000 (by omega) (by omega) (by omega) (by omega) (by omega) (by omega) W
  obtain ⟨m, hm⟩ : ∃ m, Pl.md d ppb 1000000000 = m := ⟨_, rfl⟩
  obtain ⟨l, hl⟩ : ∃ l, Pl.md (-d) ppb 1000000000 = l := ⟨_, rfl⟩
  obtain ⟨_, _, _, _, m1, m2, m3, m4⟩ := holds_more h1 h2 (by omega) (by omega) hm hl
  have f1 := Pl.fit_yes (n := m) (by omega) (by omega)
  have f2 := Pl.fit_yes (n := l) (by omega) (by omega)
  simp only [hm, Pl.kept_yes f1, f1] at M1
  simp only [hl, Pl.kept_yes f2, f2] at M2
  have HR := Lib.hid (fun raw => holds_raw (raw := raw) h1 h2 h3 h4 h5 h6 hm hl)
  have G1 := Lib.hid M1
  have G2 := Lib.hid M2
  clear M1 M2 hm hl f1 f2
  have t1 : decide (d < 0) = false := by simp; omega
  have t2 : decide (1125899906842624 < d) = false := by simp; omega
  have t3 : decide (tol < 0) = false := by simp; omega
  have t4 : decide (500000 < tol) = false := by simp; omega
  have t5 : decide (ppb < -tol) = false := by simp; omega
  have t6 : decide (tol < ppb) = false := by simp; omega
  obtain ⟨L, hL⟩ : ∃ L, (if m = -l then d + m else d + m + 1) = L := ⟨_, rfl⟩
  have hL1 : d + m ≤ L ∧ L ≤ d + m + 1 := by split at hL <;> omega
  obtain ⟨hL1, hL2⟩ := hL1
  rw [hL] at HR
  have HL := Lib.hid hL
  clear hL
  go_enter Try.func6, Try.ntmps6
  go_outline
  go_wp2_with fail
  refine (G1.out _).mono ?_
  rintro e w1 ⟨rfl, rfl⟩
  go_wp2_with fail
  refine (G2.out _).mono ?_
  rintro e w1 ⟨rfl, rfl⟩
  go_upto_if 64 with fail
  go_cut [11] (fun s11 wx => s11 = .int .i64 L ∧ wx = w)
  case first =>
    by_cases hx : m = -l
    · have t : (m == -l) = true := by simp [hx]
      have hl : Hid (d + m = L) := Lib.hid (by rw [← HL.out, if_pos hx])
      clear hx
      go_wp2_with fail
      go_meet
      case rel => exact ⟨by rw [hl.out], rfl⟩
    · have t : (m == -l) = false := by simp [hx]
      have hl : Hid (d + m + 1 = L) := Lib.hid (by rw [← HL.out, if_neg hx])
      clear hx
      go_wp2_with fail
      go_meet
      case rel => exact ⟨by rw [hl.out], rfl⟩
  case rest =>
    obtain ⟨rfl, rfl⟩ := hcut
    go_wp2_with fail
    go_loopw [12] (fun i wr => ∃ raw : Int, i = .int .i64 raw ∧ d + m ≤ raw ∧ raw ≤ L + 1 ∧ Hid (Below wc.heap.size wc wr)) (fun i _ => (L + 1 - RowKit.intOf i).toNat)
    case atStart => exact ⟨d + m, rfl, by omega, by omega, Lib.hid (Below.refl _ _)⟩
    case round =>
      obtain ⟨raw, rfl, q1, q2, hB⟩ := hrel
      by_cases c : raw ≤ L
      · obtain ⟨x1, x2, x3⟩ := HR.out raw q1 c
        have E := delapsed_any raw tol (by omega) (by omega) (by omega) (by omega)
        rw [Pl.ela_yes x1] at E
        generalize Pl.lst raw tol = lo at E x2
        generalize Pl.mst raw tol = hi at E x3
        have E := Lib.hid E
        clear x1
        go_wp2_with fail
        refine (E.out _).mono ?_
        rintro e w3 ⟨rfl, b3⟩
        have HB := Lib.hid (bel_on hB.out b3)
        clear b3 E
        go_wp2_with fail
        go_roundw
        case rel => exact ⟨raw + 1, by go_num, by omega, by omega, HB⟩
        case measure => simp [RowKit.intOf]; omega
      · go_wp2_with fail
        refine (dawake_any _).mono ?_
        rintro e w3 ⟨rfl, b3⟩
        go_wp2
        go_ret
        exact ⟨rfl, bel_on hB.out b3⟩

theorem driftHolds_walk (d ppb tol : Int) (w : World) (_h1 : (Lit.int .i64 d).wf = true) (_h2 : (Lit.int .i64 ppb).wf = true) (h3 : (Lit.int .i64 tol).wf = true) :
    Calls Try.prog 6 #[.int .i64 d, .int .i64 ppb, .int .i64 tol] w fun e w' => e = .returned (.bool true) ∧ Below w.heap.size w w' := by
  by_cases h : d < 0 ∨ 1125899906842624 < d ∨ tol < 0 ∨ 500000 < tol ∨ ppb < -tol ∨ tol < ppb
  · exact driftHolds_no d ppb tol w h (int_bd h3).1 (int_bd h3).2
  · exact driftHolds_yes d ppb tol w (by omega) (by omega) (by omega) (by omega) (by omega) (by omega)
end Go.Proofs.Ytkdanfhgnpgmmaa
