/- Contracts of the reference's length and shown. -/
import Derived.Test.YtcdholgafojjoaaClockRef2
namespace Go.Proofs.Ytcdholgafojjoaa
open Go.RowKit Go.Lib

set_option maxHeartbeats 1000000 in
theorem rlength_any (s : Pl.CS) (h : s.ok = true) (w : World) : Calls Try.prog 44 #[csV s] w fun x w' => x = .returned (.int .i64 (Pl.rlen s)) ∧ Below w.heap.size w w' := by
  obtain ⟨_, _, h3, _, h5, h6, h7, _⟩ := Pl.CS.ok_iff.1 h
  have kw1 : IntKind.i64.wrap (-s.left) = -s.left := IntWalk.i64_in _ (by omega)
  unfold Pl.rlen
  obtain ⟨l, hl⟩ : ∃ l, max s.left (-s.left) = l := ⟨_, rfl⟩
  rw [hl]
  by_cases c : s.left = 0
  · rw [if_pos c]
    have t : (l == 0) = true := by simp; omega
    clear h h7 c
    go_enter Try.func44, Try.ntmps44
    go_wp2
    go_ret
    exact ⟨rfl, bel_bx w _⟩
  · rw [if_neg c]
    have t : (l == 0) = false := by simp; omega
    have hr : 0 < s.rate := by omega
    have t2 : (s.rate == 0) = false := by simp; omega
    have l0 : 0 ≤ l := by omega
    have q0 := Int.ediv_nonneg l0 (show 0 ≤ s.rate by omega)
    have q1 := Int.ediv_le_self s.rate l0
    have r0 := Int.emod_nonneg l (show s.rate ≠ 0 by omega)
    have r1 := Int.emod_lt_of_pos l hr
    obtain ⟨q, hq⟩ : ∃ q, l / s.rate = q := ⟨_, rfl⟩
    obtain ⟨r, hrr⟩ : ∃ r, l % s.rate = r := ⟨_, rfl⟩
    have hq2 : l.tdiv s.rate = q := by rw [Int.tdiv_eq_ediv_of_nonneg l0, hq]
    have hr2 : l.tmod s.rate = r := by rw [Int.tmod_eq_emod_of_nonneg l0, hrr]
    rw [hq] at q0 q1
    rw [hrr] at r0 r1
    rw [hq, hrr]
    have kw2 : IntKind.i64.wrap (l.tdiv s.rate) = l.tdiv s.rate := IntWalk.i64_in _ (by rw [hq2]; omega)
    have kw3 : IntKind.i64.wrap (l.tmod s.rate) = l.tmod s.rate := IntWalk.i64_in _ (by rw [hr2]; omega)
    by_cases c2 : 10000000 < q
    · rw [if_pos c2]
      have t3 : decide (10000000 < q) = true := by simp [c2]
      clear h h7 c hq hrr
      go_enter Try.func44, Try.ntmps44
      go_wp2_with fail
      go_region_with fail
      all_goals (go_wp2; go_ret; exact ⟨rfl, by first | exact (bel_bx w _).drew | exact bel_bx w _⟩)
    · rw [if_neg c2]
      have t3 : decide (10000000 < q) = false := by simp; omega
      have C0 := Int.ediv_nonneg (show 0 ≤ r * 1000000000 + s.rate - 1 by omega) (show 0 ≤ s.rate by omega)
      have C1 := Int.ediv_le_self s.rate (show 0 ≤ r * 1000000000 + s.rate - 1 by omega)
      obtain ⟨C, hC⟩ : ∃ C, (r * 1000000000 + s.rate - 1) / s.rate = C := ⟨_, rfl⟩
      have hC2 : (r * 1000000000 + s.rate - 1).tdiv s.rate = C := by rw [Int.tdiv_eq_ediv_of_nonneg (by omega), hC]
      rw [hC] at C0 C1 ⊢
      have kw4 : IntKind.i64.wrap (q * 1000000000) = q * 1000000000 := IntWalk.i64_in _ (by omega)
      have kw5 : IntKind.i64.wrap (r * 1000000000) = r * 1000000000 := IntWalk.i64_in _ (by omega)
      have kw6 : IntKind.i64.wrap (r * 1000000000 + s.rate) = r * 1000000000 + s.rate := IntWalk.i64_in _ (by omega)
      have kw7 : IntKind.i64.wrap (r * 1000000000 + s.rate - 1) = r * 1000000000 + s.rate - 1 := IntWalk.i64_in _ (by omega)
      have kw8 : IntKind.i64.wrap ((r * 1000000000 + s.rate - 1).tdiv s.rate) = (r * 1000000000 + s.rate - 1).tdiv s.rate := IntWalk.i64_in _ (by rw [hC2]; omega)
      have kw9 : IntKind.i64.wrap (q * 1000000000 + C) = q * 1000000000 + C := IntWalk.i64_in _ (by omega)
      clear h h7 c hq hrr hC
      go_enter Try.func44, Try.ntmps44
      go_wp2_with fail
      go_region_with fail
      all_goals (go_wp2; go_ret; exact ⟨rfl, by first | exact (bel_bx w _).drew | exact bel_bx w _⟩)

set_option maxHeartbeats 4000000 in
theorem rshown_any (s : Pl.CS) (e : Int) (h : s.ok = true) (h0 : 0 ≤ e) (h1 : e ≤ 9007199254740992) (w : World) : Calls Try.prog 40 #[csV s, .int .i64 e] w fun x w' => x = .returned (.int .i64 (Pl.shown s e)) ∧ Below w.heap.size w w' := by
  obtain ⟨_, ht, h3, hp, h5, h6, h7, _⟩ := Pl.CS.ok_iff.1 h
  have RL := fun W => rlength_any s h W
  have hmin := Pl.rlen_min h h0 h1
  have hl := Pl.slewLen_pos h
  obtain ⟨X, hX⟩ : ∃ X, Pl.rlen s = X := ⟨_, rfl⟩
  obtain ⟨T, hT⟩ : ∃ T, min e X = T := ⟨_, rfl⟩
  have HE := Pl.rshown_eq h h0 h1 (T := T) (by rw [hX]; exact hT)
  rw [hX] at RL hmin
  have RL := Lib.hid RL
  have T0 : 0 ≤ T ∧ T ≤ e := by omega
  obtain ⟨T0, T1⟩ := T0
  have hf := Pl.fast_in h
  have g1 : Pl.Good T (Pl.fast s) := ⟨T0, by omega, hf.1, hf.2⟩
  have g2 : Pl.Good (e - T) s.ppb := ⟨by omega, by omega, by omega, by omega⟩
  have p1 := Pl.part_in (e := T) (p := Pl.fast s) T0 hf.1 hf.2
  have p2 := Pl.part_in (e := e - T) (p := s.ppb) (by omega) (by omega) (by omega)
  clear hmin hl hX h hf
  by_cases c : 0 < s.left
  · have cp := eq_true c
    skip
    have SG := Lib.hid (fun W => rsign_any s.left W)
    simp only [cp, if_true] at SG
    have hF : Pl.fast s = s.ppb + s.rate := by unfold Pl.fast; simp only [cp, if_true]
    rw [hF] at HE p1 g1
    obtain ⟨P1, hP1⟩ : ∃ P1, Pl.part T (s.ppb + s.rate) = P1 := ⟨_, rfl⟩
    obtain ⟨P2, hP2⟩ : ∃ P2, Pl.part (e - T) s.ppb = P2 := ⟨_, rfl⟩
    rw [hP1] at p1 HE
    rw [hP2] at p2 HE
    rw [HE]
    have a1 : IntKind.i64.wrap (s.time + T) = s.time + T := IntWalk.i64_in _ (by omega)
    have a2 : IntKind.i64.wrap (s.time + T + P1) = s.time + T + P1 := IntWalk.i64_in _ (by omega)
    have a3 : IntKind.i64.wrap (s.time + T + P1 + e) = s.time + T + P1 + e := IntWalk.i64_in _ (by omega)
    have a4 : IntKind.i64.wrap (s.time + T + P1 + e - T) = s.time + T + P1 + e - T := IntWalk.i64_in _ (by omega)
    have a5 : IntKind.i64.wrap (s.time + T + P1 + e - T + P2) = s.time + T + P1 + e - T + P2 := IntWalk.i64_in _ (by omega)
    have a6 : IntKind.i64.wrap (e - T) = e - T := IntWalk.i64_in _ (by omega)
    have a7 : IntKind.i64.wrap (-s.rate) = -s.rate := IntWalk.i64_in _ (by omega)
    have a8 : IntKind.i64.wrap s.rate = s.rate := IntWalk.i64_in _ (by omega)
    have a9 : IntKind.i64.wrap (s.ppb + s.rate) = s.ppb + s.rate := IntWalk.i64_in _ (by omega)
    have b1 : IntKind.i64.wrap (s.ppb + -s.rate) = s.ppb + -s.rate := IntWalk.i64_in _ (by omega)
    have b2 : IntKind.i64.wrap (s.ppb - s.rate) = s.ppb - s.rate := IntWalk.i64_in _ (by omega)
    have b3 : IntKind.i64.wrap s.ppb = s.ppb := IntWalk.i64_in _ (by omega)
    have b4 : IntKind.i64.wrap 0 = 0 := IntWalk.i64_in _ (by omega)
    have e1 : s.ppb + s.rate = s.ppb + s.rate := by omega
    have hQ1 := Lib.hid hP1
    have hQ2 := Lib.hid hP2
    clear hP1 hP2 hF HE
    go_enter Try.func40, Try.ntmps40
    go_wp2_with fail
    refine (RL.out _).mono ?_
    rintro _ w1 ⟨rfl, l1⟩
    have K := (one_mk w 23 (csA s)).on l1
    obtain ⟨k0, k1, k2, k3, k4, k5⟩ := cs_cells K.2
    have kz := K.2.lt
    clear l1
    go_wp2_with fail
    go_region_held3 (fun w' => w'.cell? ⟨w.heap.size, 0, none⟩ = some (.int .i64 s.raw) ∧ w'.cell? ⟨w.heap.size, 1, none⟩ = some (.int .i64 s.time) ∧ w'.cell? ⟨w.heap.size, 2, none⟩ = some (.int .i64 s.ppb) ∧ w'.cell? ⟨w.heap.size, 3, none⟩ = some (.int .i64 s.left) ∧ w'.cell? ⟨w.heap.size, 4, none⟩ = some (.int .i64 s.rate) ∧ w'.cell? ⟨w.heap.size, 5, none⟩ = some (.int .i64 s.steps)) (first | exact cs_cells K.2 | exact cs_cells K.drew.2) ((first
      | (go_at_call 46; refine (SG.out _).mono ?_; rintro _ w2 ⟨rfl, rfl⟩)
      | (go_at_call 45; (try rw [e1]); refine (rpart_any _ _ (by first | exact g1 | exact g2) _).mono ?_; rintro _ w2 ⟨rfl, rfl⟩; (first | rw [hQ1.out] | rw [hQ2.out]))))
    all_goals (go_wp2; go_ret; exact ⟨rfl, by first | exact K.1.drew | exact K.1⟩)
  · by_cases c2 : s.left < 0
    · have cn := eq_false c
      have cp := eq_true c2
      skip
      have SG := Lib.hid (fun W => rsign_any s.left W)
      simp only [cn, cp, if_true, if_false] at SG
      have hF : Pl.fast s = s.ppb - s.rate := by unfold Pl.fast; simp only [cn, cp, if_true, if_false]
      rw [hF] at HE p1 g1
      obtain ⟨P1, hP1⟩ : ∃ P1, Pl.part T (s.ppb - s.rate) = P1 := ⟨_, rfl⟩
      obtain ⟨P2, hP2⟩ : ∃ P2, Pl.part (e - T) s.ppb = P2 := ⟨_, rfl⟩
      rw [hP1] at p1 HE
      rw [hP2] at p2 HE
      rw [HE]
      have a1 : IntKind.i64.wrap (s.time + T) = s.time + T := IntWalk.i64_in _ (by omega)
      have a2 : IntKind.i64.wrap (s.time + T + P1) = s.time + T + P1 := IntWalk.i64_in _ (by omega)
      have a3 : IntKind.i64.wrap (s.time + T + P1 + e) = s.time + T + P1 + e := IntWalk.i64_in _ (by omega)
      have a4 : IntKind.i64.wrap (s.time + T + P1 + e - T) = s.time + T + P1 + e - T := IntWalk.i64_in _ (by omega)
      have a5 : IntKind.i64.wrap (s.time + T + P1 + e - T + P2) = s.time + T + P1 + e - T + P2 := IntWalk.i64_in _ (by omega)
      have a6 : IntKind.i64.wrap (e - T) = e - T := IntWalk.i64_in _ (by omega)
      have a7 : IntKind.i64.wrap (-s.rate) = -s.rate := IntWalk.i64_in _ (by omega)
      have a8 : IntKind.i64.wrap s.rate = s.rate := IntWalk.i64_in _ (by omega)
      have a9 : IntKind.i64.wrap (s.ppb + s.rate) = s.ppb + s.rate := IntWalk.i64_in _ (by omega)
      have b1 : IntKind.i64.wrap (s.ppb + -s.rate) = s.ppb + -s.rate := IntWalk.i64_in _ (by omega)
      have b2 : IntKind.i64.wrap (s.ppb - s.rate) = s.ppb - s.rate := IntWalk.i64_in _ (by omega)
      have b3 : IntKind.i64.wrap s.ppb = s.ppb := IntWalk.i64_in _ (by omega)
      have b4 : IntKind.i64.wrap 0 = 0 := IntWalk.i64_in _ (by omega)
      have e1 : s.ppb + -s.rate = s.ppb - s.rate := by omega
      have hQ1 := Lib.hid hP1
      have hQ2 := Lib.hid hP2
      clear hP1 hP2 hF HE
      go_enter Try.func40, Try.ntmps40
      go_wp2_with fail
      refine (RL.out _).mono ?_
      rintro _ w1 ⟨rfl, l1⟩
      have K := (one_mk w 23 (csA s)).on l1
      obtain ⟨k0, k1, k2, k3, k4, k5⟩ := cs_cells K.2
      have kz := K.2.lt
      clear l1
      go_wp2_with fail
      go_region_held3 (fun w' => w'.cell? ⟨w.heap.size, 0, none⟩ = some (.int .i64 s.raw) ∧ w'.cell? ⟨w.heap.size, 1, none⟩ = some (.int .i64 s.time) ∧ w'.cell? ⟨w.heap.size, 2, none⟩ = some (.int .i64 s.ppb) ∧ w'.cell? ⟨w.heap.size, 3, none⟩ = some (.int .i64 s.left) ∧ w'.cell? ⟨w.heap.size, 4, none⟩ = some (.int .i64 s.rate) ∧ w'.cell? ⟨w.heap.size, 5, none⟩ = some (.int .i64 s.steps)) (first | exact cs_cells K.2 | exact cs_cells K.drew.2) ((first
        | (go_at_call 46; refine (SG.out _).mono ?_; rintro _ w2 ⟨rfl, rfl⟩)
        | (go_at_call 45; (try rw [e1]); refine (rpart_any _ _ (by first | exact g1 | exact g2) _).mono ?_; rintro _ w2 ⟨rfl, rfl⟩; (first | rw [hQ1.out] | rw [hQ2.out]))))
      all_goals (go_wp2; go_ret; exact ⟨rfl, by first | exact K.1.drew | exact K.1⟩)
    · have cn := eq_false c
      have cn2 := eq_false c2
      skip
      have SG := Lib.hid (fun W => rsign_any s.left W)
      simp only [cn, cn2, if_false] at SG
      have hF : Pl.fast s = s.ppb := by unfold Pl.fast; simp only [cn, cn2, if_false]
      rw [hF] at HE p1 g1
      obtain ⟨P1, hP1⟩ : ∃ P1, Pl.part T (s.ppb) = P1 := ⟨_, rfl⟩
      obtain ⟨P2, hP2⟩ : ∃ P2, Pl.part (e - T) s.ppb = P2 := ⟨_, rfl⟩
      rw [hP1] at p1 HE
      rw [hP2] at p2 HE
      rw [HE]
      have a1 : IntKind.i64.wrap (s.time + T) = s.time + T := IntWalk.i64_in _ (by omega)
      have a2 : IntKind.i64.wrap (s.time + T + P1) = s.time + T + P1 := IntWalk.i64_in _ (by omega)
      have a3 : IntKind.i64.wrap (s.time + T + P1 + e) = s.time + T + P1 + e := IntWalk.i64_in _ (by omega)
      have a4 : IntKind.i64.wrap (s.time + T + P1 + e - T) = s.time + T + P1 + e - T := IntWalk.i64_in _ (by omega)
      have a5 : IntKind.i64.wrap (s.time + T + P1 + e - T + P2) = s.time + T + P1 + e - T + P2 := IntWalk.i64_in _ (by omega)
      have a6 : IntKind.i64.wrap (e - T) = e - T := IntWalk.i64_in _ (by omega)
      have a7 : IntKind.i64.wrap (-s.rate) = -s.rate := IntWalk.i64_in _ (by omega)
      have a8 : IntKind.i64.wrap s.rate = s.rate := IntWalk.i64_in _ (by omega)
      have a9 : IntKind.i64.wrap (s.ppb + s.rate) = s.ppb + s.rate := IntWalk.i64_in _ (by omega)
      have b1 : IntKind.i64.wrap (s.ppb + -s.rate) = s.ppb + -s.rate := IntWalk.i64_in _ (by omega)
      have b2 : IntKind.i64.wrap (s.ppb - s.rate) = s.ppb - s.rate := IntWalk.i64_in _ (by omega)
      have b3 : IntKind.i64.wrap s.ppb = s.ppb := IntWalk.i64_in _ (by omega)
      have b4 : IntKind.i64.wrap 0 = 0 := IntWalk.i64_in _ (by omega)
      have e1 : s.ppb + 0 = s.ppb := by omega
      have hQ1 := Lib.hid hP1
      have hQ2 := Lib.hid hP2
      clear hP1 hP2 hF HE
      go_enter Try.func40, Try.ntmps40
      go_wp2_with fail
      refine (RL.out _).mono ?_
      rintro _ w1 ⟨rfl, l1⟩
      have K := (one_mk w 23 (csA s)).on l1
      obtain ⟨k0, k1, k2, k3, k4, k5⟩ := cs_cells K.2
      have kz := K.2.lt
      clear l1
      go_wp2_with fail
      go_region_held3 (fun w' => w'.cell? ⟨w.heap.size, 0, none⟩ = some (.int .i64 s.raw) ∧ w'.cell? ⟨w.heap.size, 1, none⟩ = some (.int .i64 s.time) ∧ w'.cell? ⟨w.heap.size, 2, none⟩ = some (.int .i64 s.ppb) ∧ w'.cell? ⟨w.heap.size, 3, none⟩ = some (.int .i64 s.left) ∧ w'.cell? ⟨w.heap.size, 4, none⟩ = some (.int .i64 s.rate) ∧ w'.cell? ⟨w.heap.size, 5, none⟩ = some (.int .i64 s.steps)) (first | exact cs_cells K.2 | exact cs_cells K.drew.2) ((first
        | (go_at_call 46; refine (SG.out _).mono ?_; rintro _ w2 ⟨rfl, rfl⟩)
        | (go_at_call 45; (try rw [e1]); refine (rpart_any _ _ (by first | exact g1 | exact g2) _).mono ?_; rintro _ w2 ⟨rfl, rfl⟩; (first | rw [hQ1.out] | rw [hQ2.out]))))
      all_goals (go_wp2; go_ret; exact ⟨rfl, by first | exact K.1.drew | exact K.1⟩)

end Go.Proofs.Ytcdholgafojjoaa
