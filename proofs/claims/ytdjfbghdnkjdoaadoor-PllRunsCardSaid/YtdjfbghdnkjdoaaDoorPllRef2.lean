/- Contracts of the reference's phase, small, Tick, New and getters. -/
import Derived.Test.YtdjfbghdnkjdoaaDoorPllRef
import Derived.Deep.RegionHeld3
namespace Go.Proofs.YtdjfbghdnkjdoaaDoor
namespace Pl
theorem qm_in {o m d : Int} (hd : 0 < d) (h1 : -1125899906842624 ≤ o) (h2 : o ≤ 1125899906842624) (hm : 0 ≤ m) (hmd : m ≤ d) (hd2 : d ≤ 274877906944) : -2251799813685248 ≤ o / d * m ∧ o / d * m ≤ 2251799813685248 := by
  have e1 := Int.mul_ediv_self_le (x := o) (k := d) (by omega)
  have e2 := Int.lt_mul_ediv_self_add (x := o) (k := d) hd
  rw [Int.mul_comm] at e1 e2
  rcases Int.le_total 0 (o / d) with q | q
  · have a := Int.mul_le_mul_of_nonneg_left hmd q
    have b := Int.mul_nonneg q hm
    omega
  · have a := Int.mul_le_mul_of_nonpos_left q hmd
    have b := Int.mul_nonneg (show 0 ≤ -(o / d) by omega) hm
    rw [Int.neg_mul] at b
    omega
theorem rm_in {o m d : Int} (hd : 0 < d) (hm : 0 ≤ m) (hm2 : m ≤ 131072) (hd2 : d ≤ 274877906944) : (0 ≤ o - o / d * d ∧ o - o / d * d < d) ∧ 0 ≤ (o - o / d * d) * m ∧ (o - o / d * d) * m ≤ 36028797018963968 := by
  have e1 := Int.mul_ediv_self_le (x := o) (k := d) (by omega)
  have e2 := Int.lt_mul_ediv_self_add (x := o) (k := d) hd
  rw [Int.mul_comm] at e1 e2
  have a := Int.mul_nonneg (show 0 ≤ o - o / d * d by omega) hm
  have b := Int.mul_le_mul_of_nonneg_left hm2 (show 0 ≤ o - o / d * d by omega)
  omega
end Pl
open Go.RowKit Go.Lib
set_option maxHeartbeats 1000000 in
theorem rphase_any (o m po : Int) (w : World) (h1 : -1125899906842624 ≤ o) (h2 : o ≤ 1125899906842624) (h3 : 1 ≤ m) (h5 : 3 ≤ po) (h6 : po ≤ 17) :
    Calls Tryd.prog 37 #[.int .i64 o, .int .i64 m, .int .i64 po] w fun e w' => e = .returned (.int .i64 (Pl.md o (min m (Pl.pw po)) (16 * Pl.pw po * Pl.pw po))) ∧ w = w' := by
  obtain ⟨p1, p2⟩ := Pl.pw_in h5 h6
  obtain ⟨S, hS⟩ : ∃ S, Pl.pw po = S := ⟨_, rfl⟩
  have hE : (2 : Int) ^ po.toNat = S := hS
  rw [hS] at p1 p2 ⊢
  obtain ⟨s1, s2⟩ := Pl.sq_in p1 p2
  have kw1 : IntKind.i64.wrap S = S := IntWalk.i64_in _ (by omega)
  have kw2 : IntKind.i64.wrap (16 * S) = 16 * S := IntWalk.i64_in _ (by omega)
  have kw3 : IntKind.i64.wrap (16 * S * S) = 16 * S * S := IntWalk.i64_in _ (by omega)
  obtain ⟨D, hD⟩ : ∃ D, 16 * S * S = D := ⟨_, rfl⟩
  replace kw3 := kw3.trans hD
  rw [hD] at s1 s2 ⊢
  obtain ⟨B, hB⟩ : ∃ B, min m S = B := ⟨_, rfl⟩
  rw [hB]
  have hBb : 1 ≤ B ∧ B ≤ S := by omega
  have qb := Pl.qm_in (o := o) (m := B) (d := D) (by omega) h1 h2 (by omega) (by omega) s2
  have rb := Pl.rm_in (o := o) (m := B) (d := D) (by omega) (by omega) (by omega) s2
  have F1 := Lib.hid (fun W => rfloor13_any o D (by omega) (by omega) (by omega) (by omega) W)
  have F2 := fun W => rfloor13_any ((o - o / D * D) * B) D (by omega) (by omega) (by omega) (by omega) W
  have hq := Pl.floor_in (a := o) (b := D) (K := 1125899906842624) (by omega) h1 h2 (by omega)
  have hv := Pl.floor_in (a := (o - o / D * D) * B) (b := D) (K := 36028797018963968) (by omega) (by omega) (by omega) (by omega)
  have eM : Pl.md o B D = o / D * B + (o - o / D * D) * B / D := (Pl.phase_eq (by omega)).symm
  rw [eM]
  have hqd : -2251799813685248 ≤ o / D * D ∧ o / D * D ≤ 2251799813685248 := by omega
  obtain ⟨Q, hQ⟩ : ∃ Q, o / D = Q := ⟨_, rfl⟩
  rw [hQ] at qb rb F1 F2 hq hv hqd ⊢
  obtain ⟨U, hU⟩ : ∃ U, Q * B = U := ⟨_, rfl⟩
  obtain ⟨V, hV⟩ : ∃ U, Q * D = U := ⟨_, rfl⟩
  obtain ⟨R, hR⟩ : ∃ U, (o - Q * D) * B = U := ⟨_, rfl⟩
  rw [hU] at qb ⊢
  rw [hR] at rb F2 hv ⊢
  rw [hV] at hqd
  obtain ⟨T, hT⟩ : ∃ U, R / D = U := ⟨_, rfl⟩
  rw [hT] at F2 hv ⊢
  replace F2 := Lib.hid F2
  have kw4 : IntKind.i64.wrap (Q * B) = U := (IntWalk.i64_in _ (by rw [hU]; omega)).trans hU
  have kw5 : IntKind.i64.wrap (Q * D) = V := (IntWalk.i64_in _ (by rw [hV]; omega)).trans hV
  have kw6 : IntKind.i64.wrap (o - V) = o - V := IntWalk.i64_in _ (by omega)
  have kw7 : IntKind.i64.wrap ((o - V) * B) = R := (IntWalk.i64_in _ (by rw [← hV, hR]; omega)).trans (by rw [← hV, hR])
  have kw8 : IntKind.i64.wrap (U + T) = U + T := IntWalk.i64_in _ (by omega)
  clear hS hQ hU hV hR hT eM rb hD
  go_enter Tryd.func37, Tryd.ntmps37
  go_wp2_with fail
  refine (F1.out _).mono ?_
  rintro _ w1 ⟨rfl, rfl⟩
  go_wp2_with fail
  refine (F2.out _).mono ?_
  rintro _ w1 ⟨rfl, rfl⟩
  go_wp2
  go_ret
  exact ⟨rfl, rfl⟩
theorem rsm_set {W : World} {b : Nat} {c : Pl.LC} {s : Pl.LS} {X : Pl.RX} (hk : Blk W b 50 (rvA c s X)) (st p : Int) : LeftR b c ⟨st, s.f, p, s.kn, s.at_, s.po, s.sp⟩ ⟨X.x, 1, s.f⟩ W ((((W.setCell ⟨b, 5, none⟩ (.int .i64 st)).setCell ⟨b, 7, none⟩ (.int .i64 p)).setCell ⟨b, 12, none⟩ (.int .i64 1)).setCell ⟨b, 13, none⟩ (.int .i64 s.f)) :=
  ⟨(((hk.set_ 5 (.int .i64 st)).set_ 7 (.int .i64 p)).set_ 12 (.int .i64 1)).set_ 13 (.int .i64 s.f),
   only_setCell (only_setCell (only_setCell (only_setCell (only_refl W (some b)) (p := ⟨b, 5, none⟩) (.inl rfl) _) (p := ⟨b, 7, none⟩) (.inl rfl) _) (p := ⟨b, 12, none⟩) (.inl rfl) _) (p := ⟨b, 13, none⟩) (.inl rfl) _⟩
/-- the state behind a small update -/
def rsmS (c : Pl.LC) (s : Pl.LS) (o m po : Int) : Pl.LS :=
  if s.st = 0 then ⟨1, s.f, o, s.kn, s.at_, s.po, s.sp⟩ else if s.st = 1 then (if m < c.so then s else ⟨3, Pl.adj c s.f (o / m), o, s.kn, s.at_, s.po, s.sp⟩) else ⟨3, Pl.adj c s.f (Pl.pull s.p o m po), o, s.kn, s.at_, s.po, s.sp⟩
def rsmX (c : Pl.LC) (s : Pl.LS) (X : Pl.RX) (o m po : Int) : Pl.RX := if s.st = 1 ∧ m < c.so then X else ⟨X.x, 1, (rsmS c s o m po).f⟩
set_option maxHeartbeats 2000000 in
theorem rsmall_any (b : Nat) (c : Pl.LC) (s : Pl.LS) (X : Pl.RX) (o m po : Int) (w : World) (hk : Blk w b 50 (rvA c s X)) (hc : c.err = 0) (hi : Pl.LInv c s) (ho : -1125899906842624 ≤ o) (ho2 : o ≤ 1125899906842624) (hm : s.st ≠ 0 → 1 ≤ m) (hm2 : m ≤ 1073741824) (hp : 3 ≤ po) (hp2 : po ≤ 17) :
    Calls Tryd.prog 30 #[.pointer (some ⟨b, 0, none⟩), .int .i64 o, .int .i64 m, .int .i64 po] w fun e w' => e = .returned (.bool (!(decide (s.st = 1) && decide (m < c.so)))) ∧ LeftR b c (rsmS c s o m po) (rsmX c s X o m po) w w' := by
  have hok := Pl.LC.ok hc
  obtain ⟨i1, i2, i3, i4, i5, i6⟩ := hi
  obtain ⟨⟨k0, k1, k2, k3, k4⟩, k5, k6, k7, k8, k9, k10, k11, k12, k13⟩ := rv_cells hk
  have kz := hk.lt
  have f5 := hk.frozen 5
  have f7 := hk.frozen 7
  have f12 := hk.frozen 12
  have f13 := hk.frozen 13
  have HK := Lib.hid hk
  unfold rsmX rsmS
  clear i4 i5
  by_cases c0 : s.st = 0
  · simp only [if_pos c0]
    have t0 : (s.st == 0) = true := by simp [c0]
    have te : decide (s.st = 1) = false := by simp [c0]
    have tn : ¬ (s.st = 1 ∧ m < c.so) := by omega
    rw [te, if_neg tn]
    clear c0 hk te tn
    go_enter Tryd.func30, Tryd.ntmps30
    go_wp2
    go_ret
    exact ⟨rfl, rsm_set HK.out 1 o⟩
  · simp only [if_neg c0]
    have t0 : (s.st == 0) = false := by simp [c0]
    by_cases c1 : s.st = 1
    · simp only [if_pos c1]
      have t1 : (s.st == 1) = true := by simp [c1]
      have te : decide (s.st = 1) = true := by simp [c1]
      rw [te]
      by_cases cm : m < c.so
      · simp only [if_pos cm]
        have tm : decide (m < c.so) = true := by simp [cm]
        rw [if_pos ⟨c1, cm⟩]
        clear c0 c1 hk te cm
        go_enter Tryd.func30, Tryd.ntmps30
        go_wp2
        go_ret
        exact ⟨by rw [tm]; rfl, leftR_refl HK.out⟩
      · simp only [if_neg cm]
        have tm : decide (m < c.so) = false := by simp; omega
        have hm1 := hm c0
        rw [if_neg (fun h => cm h.2)]
        have Q := Lib.hid (fun W => rfloor13_any o m (by omega) (by omega) (by omega) (by omega) W)
        have qb := Pl.floor_in (a := o) (b := m) (K := 1125899906842624) (by omega) ho ho2 (by omega)
        have SR := Lib.hid (fun W h => rsteer_any b c s X (o / m) W h (by omega) (by omega) (by omega) (by omega) (by omega) (by omega))
        obtain ⟨V, hV⟩ : ∃ X, o / m = X := ⟨_, rfl⟩
        rw [hV] at Q SR ⊢
        clear c0 c1 hk hV qb hm cm te
        go_enter Tryd.func30, Tryd.ntmps30
        go_wp2_with fail
        refine (Q.out _).mono ?_
        rintro _ w1 ⟨rfl, rfl⟩
        go_wp2_with fail
        refine (SR.out _ HK.out).mono ?_
        rintro _ w2 ⟨rfl, l2⟩
        clear k0 k1 k2 k3 k4 k5 k6 k7 k8 k9 k10 k11 k12 k13 kz f5 f7 f12 f13
        obtain ⟨⟨k0, k1, k2, k3, k4⟩, k5, k6, k7, k8, k9, k10, k11, k12, k13⟩ := rv_cells l2.1
        have kz := l2.1.lt
        have f5 := l2.1.frozen 5
        have f7 := l2.1.frozen 7
        have f12 := l2.1.frozen 12
        have f13 := l2.1.frozen 13
        have HL := Lib.hid l2
        clear l2
        go_wp2
        go_ret
        exact ⟨by rw [tm]; rfl, HL.out.trans (rsm_set HL.out.1 3 o)⟩
    · simp only [if_neg c1]
      have t1 : (s.st == 1) = false := by simp [c1]
      have te : decide (s.st = 1) = false := by simp [c1]
      have hm1 := hm c0
      rw [te, if_neg (fun h => c1 h.1)]
      have PH := fun W => rphase_any o m po W ho ho2 hm1 hp hp2
      have pin := Pl.pull_in (p := s.p) ho ho2 hm1 hp hp2 (by omega) (by omega)
      have SR := fun W h => rsteer_any b c s X (Pl.pull s.p o m po) W h (by omega) (by omega) (by omega) (by omega) (by omega) (by omega)
      have Q := Lib.hid (fun W => rfloor13_any (o - s.p) (4 * max m 2048) (by omega) (by omega) (by omega) (by omega) W)
      have kw4 : IntKind.i64.wrap (o - s.p) = o - s.p := IntWalk.i64_in _ (by omega)
      have kw5 : IntKind.i64.wrap (4 * max m 2048) = 4 * max m 2048 := IntWalk.i64_in _ (by omega)
      obtain ⟨V, hV⟩ : ∃ V, Pl.pull s.p o m po = V := ⟨_, rfl⟩
      rw [hV] at pin SR ⊢
      unfold Pl.pull at hV
      obtain ⟨A, hA⟩ : ∃ A, Pl.md o (min m (Pl.pw po)) (16 * Pl.pw po * Pl.pw po) = A := ⟨_, rfl⟩
      rw [hA] at PH hV
      obtain ⟨Y, hY⟩ : ∃ Y, (o - s.p) / (4 * max m 2048) = Y := ⟨_, rfl⟩
      rw [hY] at Q hV
      replace PH := Lib.hid PH
      replace SR := Lib.hid SR
      clear hA hY hk te hm c0 c1
      by_cases c11 : 11 ≤ po
      · rw [if_pos c11] at hV
        have t11 : decide (11 ≤ po) = true := by simp [c11]
        have kw6 : IntKind.i64.wrap (A + Y) = V := (IntWalk.i64_in _ (by omega)).trans hV
        clear hV
        go_enter Tryd.func30, Tryd.ntmps30
        go_wp2_with fail
        refine (PH.out _).mono ?_
        rintro _ w1 ⟨rfl, rfl⟩
        go_wp2_with fail
        refine (Q.out _).mono ?_
        rintro _ w1 ⟨rfl, rfl⟩
        go_wp2_with fail
        refine (SR.out _ HK.out).mono ?_
        rintro _ w2 ⟨rfl, l2⟩
        clear k0 k1 k2 k3 k4 k5 k6 k7 k8 k9 k10 k11 k12 k13 kz f5 f7 f12 f13
        obtain ⟨⟨k0, k1, k2, k3, k4⟩, k5, k6, k7, k8, k9, k10, k11, k12, k13⟩ := rv_cells l2.1
        have kz := l2.1.lt
        have f5 := l2.1.frozen 5
        have f7 := l2.1.frozen 7
        have f12 := l2.1.frozen 12
        have f13 := l2.1.frozen 13
        have HL := Lib.hid l2
        clear l2
        go_wp2
        go_ret
        exact ⟨rfl, HL.out.trans (rsm_set HL.out.1 3 o)⟩
      · rw [if_neg c11, Int.add_zero] at hV
        have t11 : decide (11 ≤ po) = false := by simp; omega
        subst hV
        go_enter Tryd.func30, Tryd.ntmps30
        go_wp2_with fail
        refine (PH.out _).mono ?_
        rintro _ w1 ⟨rfl, rfl⟩
        go_wp2_with fail
        refine (SR.out _ HK.out).mono ?_
        rintro _ w2 ⟨rfl, l2⟩
        clear k0 k1 k2 k3 k4 k5 k6 k7 k8 k9 k10 k11 k12 k13 kz f5 f7 f12 f13
        obtain ⟨⟨k0, k1, k2, k3, k4⟩, k5, k6, k7, k8, k9, k10, k11, k12, k13⟩ := rv_cells l2.1
        have kz := l2.1.lt
        have f5 := l2.1.frozen 5
        have f7 := l2.1.frozen 7
        have f12 := l2.1.frozen 12
        have f13 := l2.1.frozen 13
        have HL := Lib.hid l2
        clear l2
        go_wp2
        go_ret
        exact ⟨rfl, HL.out.trans (rsm_set HL.out.1 3 o)⟩
theorem rstate_any (b : Nat) (c : Pl.LC) (s : Pl.LS) (X : Pl.RX) (w : World) (hk : Blk w b 50 (rvA c s X)) : Calls Tryd.prog 21 #[.pointer (some ⟨b, 0, none⟩)] w fun e w' => e = .returned (.int .i64 s.st) ∧ w = w' := by
  obtain ⟨⟨k0, k1, k2, k3, k4⟩, k5, k6, k7, k8, k9, k10, k11, k12, k13⟩ := rv_cells hk
  clear hk k0 k1 k2 k3 k4
  go_enter Tryd.func21, Tryd.ntmps21
  go_wp2
  go_ret
  exact ⟨rfl, rfl⟩
theorem rfreq_any (b : Nat) (c : Pl.LC) (s : Pl.LS) (X : Pl.RX) (w : World) (hk : Blk w b 50 (rvA c s X)) : Calls Tryd.prog 23 #[.pointer (some ⟨b, 0, none⟩)] w fun e w' => e = .returned (.int .i64 s.f) ∧ w = w' := by
  obtain ⟨⟨k0, k1, k2, k3, k4⟩, k5, k6, k7, k8, k9, k10, k11, k12, k13⟩ := rv_cells hk
  clear hk k0 k1 k2 k3 k4
  go_enter Tryd.func23, Tryd.ntmps23
  go_wp2
  go_ret
  exact ⟨rfl, rfl⟩
theorem rphaseP_any (b : Nat) (c : Pl.LC) (s : Pl.LS) (X : Pl.RX) (w : World) (hk : Blk w b 50 (rvA c s X)) : Calls Tryd.prog 25 #[.pointer (some ⟨b, 0, none⟩)] w fun e w' => e = .returned (.int .i64 s.p) ∧ w = w' := by
  obtain ⟨⟨k0, k1, k2, k3, k4⟩, k5, k6, k7, k8, k9, k10, k11, k12, k13⟩ := rv_cells hk
  clear hk k0 k1 k2 k3 k4
  go_enter Tryd.func25, Tryd.ntmps25
  go_wp2
  go_ret
  exact ⟨rfl, rfl⟩

theorem rtick_set {W : World} {b : Nat} {c : Pl.LC} {s : Pl.LS} {X : Pl.RX} (hk : Blk W b 50 (rvA c s X)) (V : Int) : LeftR b c ⟨s.st, s.f, V, s.kn, s.at_, s.po, s.sp⟩ X W (W.drew.setCell ⟨b, 7, none⟩ (.int .i64 V)) :=
  ⟨hk.drew.set_ 7 (.int .i64 V), only_setCell (only_drew (only_refl W (some b))) (p := ⟨b, 7, none⟩) (.inl rfl) _⟩
set_option maxHeartbeats 1000000 in
theorem rtick_any (b : Nat) (c : Pl.LC) (s : Pl.LS) (X : Pl.RX) (w : World) (hk : Blk w b 50 (rvA c s X)) (hc : c.err = 0) (hi : Pl.LInv c s) :
    Calls Tryd.prog 17 #[.pointer (some ⟨b, 0, none⟩)] w fun e w' => e = .returned (.int .i64 (Pl.tk c s)) ∧ LeftR b c (Pl.tkS c s) X w w' := by
  have hok := Pl.LC.ok hc
  have hp := hi.2.2.1
  have hpo := hi.2.2.2.2.1
  obtain ⟨P, hP⟩ : ∃ P, Pl.rpo c s = P := ⟨_, rfl⟩
  have hP' : (if s.kn = true then s.po else c.lo) = P := hP
  have hP3 : 3 ≤ P ∧ P ≤ 17 := by
    rw [← hP']
    split
    · rename_i k; have := hpo k; omega
    · omega
  obtain ⟨p1, p2⟩ := Pl.pw_in hP3.1 hP3.2
  obtain ⟨S, hS⟩ : ∃ S, Pl.pw P = S := ⟨_, rfl⟩
  have hE : (2 : Int) ^ P.toNat = S := hS
  rw [hS] at p1 p2
  have hq := Pl.tdiv_le s.p (16 * S) (by omega)
  obtain ⟨T, hT⟩ : ∃ T, s.p.tdiv (16 * S) = T := ⟨_, rfl⟩
  rw [hT] at hq
  have hq' : -1125899906842624 ≤ T ∧ T ≤ 1125899906842624 ∧ -1125899906842624 ≤ s.p - T ∧ s.p - T ≤ 1125899906842624 := by
    rcases Int.le_total 0 s.p with q | q
    · have := hq.1 q; omega
    · have := hq.2 q; omega
  have e1 : Pl.tk c s = T := by unfold Pl.tk; rw [hP', hS, hT]
  have e2 : Pl.tkS c s = ⟨s.st, s.f, s.p - T, s.kn, s.at_, s.po, s.sp⟩ := by unfold Pl.tkS; rw [e1]
  rw [e1, e2]
  have kw1 : IntKind.i64.wrap (16 * S) = 16 * S := IntWalk.i64_in _ (by omega)
  have kw2 : IntKind.i64.wrap (s.p.tdiv (16 * S)) = T := (IntWalk.i64_in _ (by rw [hT]; omega)).trans hT
  have kw3 : IntKind.i64.wrap (s.p - T) = s.p - T := IntWalk.i64_in _ (by omega)
  have t0 : (16 * S == 0) = false := by simp; omega
  obtain ⟨⟨k0, k1, k2, k3, k4⟩, k5, k6, k7, k8, k9, k10, k11, k12, k13⟩ := rv_cells hk
  rw [hP] at k10
  have kz := hk.lt
  have f7 := hk.frozen 7
  have HK := Lib.hid hk
  clear hk hc hi hpo hq hS e1 e2 hP hP' k0 k1 k2 k3 k4 k5 k6 k8 k9 k11 k12 k13
  go_enter Tryd.func17, Tryd.ntmps17
  go_wp2_with fail
  go_region_with fail
  all_goals (
    go_wp2_with fail
    go_ret
    exact ⟨rfl, rtick_set HK.out (s.p - T)⟩)
end Go.Proofs.YtdjfbghdnkjdoaaDoor
