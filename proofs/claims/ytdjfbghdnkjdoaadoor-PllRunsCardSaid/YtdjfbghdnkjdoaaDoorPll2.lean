/- Contracts of the loop's pull, Tick and readers. -/
import Derived.Test.YtdjfbghdnkjdoaaDoorPll1
namespace Go.Proofs.YtdjfbghdnkjdoaaDoor
namespace Pl
theorem part_bd {o b d K : Int} (hd : 0 < d) (h1 : -K ≤ o) (h2 : o ≤ K) (hb : 0 ≤ b) (hbd : b ≤ d) (hK : 0 ≤ K) : -K ≤ o * b / d ∧ o * b / d ≤ K := by
  have k1 := Int.mul_le_mul_of_nonneg_right h1 hb
  have k2 := Int.mul_le_mul_of_nonneg_right h2 hb
  have k3 := Int.mul_le_mul_of_nonneg_left hbd hK
  rw [Int.neg_mul] at k1
  constructor
  · rw [Int.le_ediv_iff_mul_le hd, Int.neg_mul]
    omega
  · have : o * b / d < K + 1 := by
      rw [Int.ediv_lt_iff_lt_mul hd, Int.add_mul]
      omega
    omega
theorem sq_in {S : Int} (h1 : 8 ≤ S) (h2 : S ≤ 131072) : S ≤ 16 * S * S ∧ 16 * S * S ≤ 274877906944 := by
  have k1 := Int.mul_le_mul_of_nonneg_right (show 128 ≤ 16 * S by omega) (show 0 ≤ S by omega)
  have k2 := Int.mul_le_mul_of_nonneg_right (show 16 * S ≤ 2097152 by omega) (show 0 ≤ S by omega)
  omega
theorem pull_in {p o m po : Int} (h1 : -1125899906842624 ≤ o) (h2 : o ≤ 1125899906842624) (h3 : 1 ≤ m) (h5 : 3 ≤ po) (h6 : po ≤ 17) (h7 : -1125899906842624 ≤ p) (h8 : p ≤ 1125899906842624) : -4611686018427387904 ≤ pull p o m po ∧ pull p o m po ≤ 4611686018427387904 := by
  obtain ⟨p1, p2⟩ := pw_in h5 h6
  obtain ⟨s1, s2⟩ := sq_in p1 p2
  have a := part_bd (o := o) (b := min m (pw po)) (d := 16 * pw po * pw po) (K := 1125899906842624) (by omega) h1 h2 (by omega) (by omega) (by omega)
  have b := floor_in (a := o - p) (b := 4 * max m 2048) (K := 2251799813685248) (by omega) (by omega) (by omega) (by omega)
  unfold pull md
  split <;> omega
end Pl
open Go.RowKit Go.Lib

set_option maxHeartbeats 1000000 in
theorem ppull_any (b : Nat) (c : Pl.LC) (s : Pl.LS) (o m po : Int) (w : World) (hk : Blk w b 46 (lvA c s)) (h1 : -1125899906842624 ≤ o) (h2 : o ≤ 1125899906842624) (h3 : 1 ≤ m) (h4 : m ≤ 1073741824) (h5 : 3 ≤ po) (h6 : po ≤ 17) (h7 : -1125899906842624 ≤ s.p) (h8 : s.p ≤ 1125899906842624) :
    Calls Tryd.prog 33 #[.pointer (some ⟨b, 0, none⟩), .int .i64 o, .int .i64 m, .int .i64 po] w fun e w' => e = .returned (.int .i64 (Pl.pull s.p o m po)) ∧ Below w.heap.size w w' := by
  obtain ⟨p1, p2⟩ := Pl.pw_in h5 h6
  obtain ⟨S, hS⟩ : ∃ S, Pl.pw po = S := ⟨_, rfl⟩
  have hE : (2 : Int) ^ po.toNat = S := hS
  rw [hS] at p1 p2
  obtain ⟨s1, s2⟩ := Pl.sq_in p1 p2
  have kw1 : IntKind.i64.wrap S = S := IntWalk.i64_in _ (by omega)
  have kw2 : IntKind.i64.wrap (16 * S) = 16 * S := IntWalk.i64_in _ (by omega)
  have kw3 : IntKind.i64.wrap (16 * S * S) = 16 * S * S := IntWalk.i64_in _ (by omega)
  have M := fun W => fmuldiv_any o (min m S) (16 * S * S) (by omega) (by omega) (by omega) (by omega) (by omega) (by omega) W
  have ab := Pl.part_bd (o := o) (b := min m S) (d := 16 * S * S) (K := 1125899906842624) (by omega) h1 h2 (by omega) (by omega) (by omega)
  have hf : Pl.fit (Pl.md o (min m S) (16 * S * S)) = true := Pl.fit_yes (by unfold Pl.md; omega) (by unfold Pl.md; omega)
  simp only [Pl.kept_yes hf, hf] at M
  have Q := Lib.hid (fun W => pquot_any (o - s.p) (4 * max m 2048) (by omega) (by omega) (by omega) (by omega) W)
  have qb := Pl.floor_in (a := o - s.p) (b := 4 * max m 2048) (K := 2251799813685248) (by omega) (by omega) (by omega) (by omega)
  have kw4 : IntKind.i64.wrap (o - s.p) = o - s.p := IntWalk.i64_in _ (by omega)
  have kw5 : IntKind.i64.wrap (4 * max m 2048) = 4 * max m 2048 := IntWalk.i64_in _ (by omega)
  have ab' : -1125899906842624 ≤ Pl.md o (min m S) (16 * S * S) ∧ Pl.md o (min m S) (16 * S * S) ≤ 1125899906842624 := ab
  unfold Pl.pull
  rw [hS]
  obtain ⟨X, hX⟩ : ∃ X, Pl.md o (min m S) (16 * S * S) = X := ⟨_, rfl⟩
  rw [hX] at ab' M ⊢
  obtain ⟨Y, hY⟩ : ∃ Y, (o - s.p) / (4 * max m 2048) = Y := ⟨_, rfl⟩
  rw [hY] at qb Q ⊢
  have M := Lib.hid M
  obtain ⟨k0, k5, k6, k7, k8, k9, k10, k11⟩ := lv_cells hk
  have kz := hk.lt
  have kw6 : IntKind.i64.wrap (X + Y) = X + Y := IntWalk.i64_in _ (by omega)
  clear hS hf ab hX hY hk k0
  by_cases c11 : 11 ≤ po
  · rw [if_pos c11]
    have t : decide (11 ≤ po) = true := by simp [c11]
    go_enter Tryd.func33, Tryd.ntmps33
    go_wp2_with fail
    refine (M.out _).mono ?_
    rintro _ w1 ⟨rfl, n, rfl⟩
    go_wp2_with fail
    refine (Q.out _).mono ?_
    rintro _ w1 ⟨rfl, n2, rfl⟩
    go_wp2
    go_ret
    exact ⟨rfl, below_drewN (Below.refl _ _) _⟩
  · rw [if_neg c11, Int.add_zero]
    have t : decide (11 ≤ po) = false := by simp; omega
    go_enter Tryd.func33, Tryd.ntmps33
    go_wp2_with fail
    refine (M.out _).mono ?_
    rintro _ w1 ⟨rfl, n, rfl⟩
    go_wp2
    go_ret
    exact ⟨rfl, below_drewN (Below.refl _ _) _⟩

theorem tick_set {W : World} {b : Nat} {c : Pl.LC} {s : Pl.LS} (hk : Blk W b 46 (lvA c s)) (X : Int) (n : Nat) :
    LeftP b c ⟨s.st, s.f, X, s.kn, s.at_, s.po, s.sp⟩ W ((W.setCell ⟨b, 7, none⟩ (.int .i64 X)).drewN n) := by
  refine ⟨?_, ?_⟩
  · have := (hk.set_ 7 (.int .i64 X)).drewN n
    exact this
  · have k1 := only_setCell (only_refl W (some b)) (p := ⟨b, 7, none⟩) (.inl rfl) (.int .i64 X)
    exact only_drewN k1 n

set_option maxHeartbeats 1000000 in
theorem ptick_any (b : Nat) (c : Pl.LC) (s : Pl.LS) (w : World) (hk : Blk w b 46 (lvA c s)) (hc : c.err = 0) (hi : Pl.LInv c s) :
    Calls Tryd.prog 16 #[.pointer (some ⟨b, 0, none⟩)] w fun e w' => e = .returned (.int .i64 (Pl.tk c s)) ∧ LeftP b c (Pl.tkS c s) w w' := by
  have hok := Pl.LC.ok hc
  have hp := hi.2.2.1
  have hpo := hi.2.2.2.2.1
  obtain ⟨P, hP⟩ : ∃ P, (if s.kn = true then s.po else c.lo) = P := ⟨_, rfl⟩
  have hP3 : 3 ≤ P ∧ P ≤ 17 := by
    rw [← hP]
    split
    · rename_i k; have := hpo k; omega
    · omega
  obtain ⟨p1, p2⟩ := Pl.pw_in hP3.1 hP3.2
  obtain ⟨S, hS⟩ : ∃ S, Pl.pw P = S := ⟨_, rfl⟩
  have hE : (2 : Int) ^ P.toNat = S := hS
  rw [hS] at p1 p2
  have hq := Pl.tdiv_le s.p (16 * S) (by omega)
  obtain ⟨T, hT⟩ : ∃ T, s.p.tdiv (16 * S) = T := ⟨_, rfl⟩
  rw [hT] at hq
  have hq' : -1125899906842624 ≤ T ∧ T ≤ 1125899906842624 ∧ -1125899906842624 ≤ s.p - T ∧ s.p - T ≤ 1125899906842624 := by
    rcases Int.le_total 0 s.p with q | q
    · have := hq.1 q; omega
    · have := hq.2 q; omega
  have e1 : Pl.tk c s = T := by unfold Pl.tk; rw [hP, hS, hT]
  have e2 : Pl.tkS c s = ⟨s.st, s.f, s.p - T, s.kn, s.at_, s.po, s.sp⟩ := by unfold Pl.tkS; rw [e1]
  rw [e1, e2]
  have kw1 : IntKind.i64.wrap (16 * S) = 16 * S := IntWalk.i64_in _ (by omega)
  have kw2 : IntKind.i64.wrap (s.p.tdiv (16 * S)) = s.p.tdiv (16 * S) := IntWalk.i64_in _ (by rw [hT]; omega)
  have kw3 : IntKind.i64.wrap (s.p - T) = s.p - T := IntWalk.i64_in _ (by omega)
  have t0 : (16 * S == 0) = false := by simp; omega
  obtain ⟨k0, k5, k6, k7, k8, k9, k10, k11⟩ := lv_cells hk
  have k0 := k0.1
  have kz := hk.lt
  have f7 := hk.frozen 7
  have HK := Lib.hid hk
  clear hk hc hi hpo hq hS e1 e2
  cases hkn : s.kn with
  | true =>
    rw [hkn] at k8 hP
    simp only [if_true] at hP
    subst hP
    go_enter Tryd.func16, Tryd.ntmps16
    go_wp2_with fail
    go_region_with fail
    all_goals (
      go_wp2_with fail
      go_ret
      have q := tick_set HK.out (s.p - T) 1
      rw [hkn] at q
      exact ⟨rfl, q⟩)
  | false =>
    rw [hkn] at k8 hP
    simp only [Bool.false_eq_true, if_false] at hP
    subst hP
    go_enter Tryd.func16, Tryd.ntmps16
    go_wp2_with fail
    go_region_with fail
    all_goals (
      go_wp2_with fail
      go_ret
      have q := tick_set HK.out (s.p - T) 1
      rw [hkn] at q
      exact ⟨rfl, q⟩)

theorem pstate_any (b : Nat) (c : Pl.LC) (s : Pl.LS) (w : World) (hk : Blk w b 46 (lvA c s)) : Calls Tryd.prog 20 #[.pointer (some ⟨b, 0, none⟩)] w fun e w' => e = .returned (.int .i64 s.st) ∧ w = w' := by
  obtain ⟨k0, k5, k6, k7, k8, k9, k10, k11⟩ := lv_cells hk
  clear hk k0
  go_enter Tryd.func20, Tryd.ntmps20
  go_wp2
  go_ret
  exact ⟨rfl, rfl⟩
theorem pfreq_any (b : Nat) (c : Pl.LC) (s : Pl.LS) (w : World) (hk : Blk w b 46 (lvA c s)) : Calls Tryd.prog 22 #[.pointer (some ⟨b, 0, none⟩)] w fun e w' => e = .returned (.int .i64 s.f) ∧ w = w' := by
  obtain ⟨k0, k5, k6, k7, k8, k9, k10, k11⟩ := lv_cells hk
  clear hk k0
  go_enter Tryd.func22, Tryd.ntmps22
  go_wp2
  go_ret
  exact ⟨rfl, rfl⟩
theorem pphase_any (b : Nat) (c : Pl.LC) (s : Pl.LS) (w : World) (hk : Blk w b 46 (lvA c s)) : Calls Tryd.prog 24 #[.pointer (some ⟨b, 0, none⟩)] w fun e w' => e = .returned (.int .i64 s.p) ∧ w = w' := by
  obtain ⟨k0, k5, k6, k7, k8, k9, k10, k11⟩ := lv_cells hk
  clear hk k0
  go_enter Tryd.func24, Tryd.ntmps24
  go_wp2
  go_ret
  exact ⟨rfl, rfl⟩
theorem pnil_state (w : World) : Calls Tryd.prog 20 #[.pointer none] w fun e w' => e = .returned (.int .i64 0) ∧ w = w' := by
  go_enter Tryd.func20, Tryd.ntmps20
  go_wp2
  go_ret
  exact ⟨rfl, rfl⟩
theorem pnil_freq (w : World) : Calls Tryd.prog 22 #[.pointer none] w fun e w' => e = .returned (.int .i64 0) ∧ w = w' := by
  go_enter Tryd.func22, Tryd.ntmps22
  go_wp2
  go_ret
  exact ⟨rfl, rfl⟩
theorem pnil_phase (w : World) : Calls Tryd.prog 24 #[.pointer none] w fun e w' => e = .returned (.int .i64 0) ∧ w = w' := by
  go_enter Tryd.func24, Tryd.ntmps24
  go_wp2
  go_ret
  exact ⟨rfl, rfl⟩
theorem pnil_tick (w : World) : Calls Tryd.prog 16 #[.pointer none] w fun e w' => e = .returned (.int .i64 0) ∧ w = w' := by
  go_enter Tryd.func16, Tryd.ntmps16
  go_wp2
  go_ret
  exact ⟨rfl, rfl⟩
theorem pnil_update (t o p : Int) (w : World) : Calls Tryd.prog 18 #[.pointer none, .int .i64 t, .int .i64 o, .int .i64 p] w fun e w' => e = .returned (.tuple #[.agg #[.int .i64 0, .int .i64 0], .int .i64 1]) ∧ Below w.heap.size w w' := by
  go_enter Tryd.func18, Tryd.ntmps18
  go_wp2
  exact bodyPost_ret (v := .tuple #[.agg #[.int .i64 0, .int .i64 0], .int .i64 1]) (by simp [results, Tryd.results18, go_sem]) rfl ⟨rfl, bel_bx w _⟩

theorem pcheck_any (c : Pl.LC) (w : World) : Calls Tryd.prog 10 #[lcV c] w fun e w' => e = .returned (.int .i64 c.err) ∧ Below w.heap.size w w' := by
  have K := one_mk w 23 #[.int .i64 c.lo, .int .i64 c.hi, .int .i64 c.sa, .int .i64 c.so, .int .i64 c.lim]
  go_enter Tryd.func10, Tryd.ntmps10
  go_wp2_with (go_at_call 26; refine (pwithin_any _ _ _ _).mono ?_; rintro _ w1 ⟨rfl, rfl⟩)
  all_goals (go_ret; exact ⟨congrArg Ending.returned (congrArg (Value.int .i64) (by simp_all [Pl.LC.err, Pl.LC.rng] <;> omega)), bel_bx w _⟩)
end Go.Proofs.YtdjfbghdnkjdoaaDoor
